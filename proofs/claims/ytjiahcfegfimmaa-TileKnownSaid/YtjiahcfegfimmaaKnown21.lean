/-
  The walk of Deal where all is in order.
-/
import Derived.Test.YtjiahcfegfimmaaKnown13
import Derived.Deep.RegionLaw
import Derived.Deep.RegionHeld3
import Derived.Outline
namespace Go.Proofs.Ytjiahcfegfimmaa
open Go.RowKit

/-- What a deal hands back. -/
def DealRes (w : World) (s : TSet) (wall : List Int) (cut d : Int) (e : Ending) (w' : World) : Prop :=
  ∃ v1 v2 v3, e = .returned (.tuple #[v1, v2, v3, .int .i64 (dealErr s wall cut d)]) ∧ Grow w w' ∧
    (dealErr s wall cut d ≠ 0 → v1 = .slice none 0 0 ∧ v2 = .slice none 0 0 ∧ v3 = .slice none 0 0) ∧
    (dealErr s wall cut d = 0 → IsInts w' v2 (liveI s wall cut d) ∧ IsInts w' v3 (deadI s wall cut d) ∧
      ∃ G vs, v1 = .slice (some ⟨G, 0, none⟩) s.pl.toNat s.pl.toNat ∧ Blk w' G 22 vs ∧ vs.length = (dealtI s wall cut d).1.length ∧ ∀ (i : Nat) (v : Value) (l : List Int), vs[i]? = some v → (dealtI s wall cut d).1[i]? = some l → IsInts w' v l)

set_option maxRecDepth 100000 in
set_option maxHeartbeats 4000000 in
theorem Deal_ok (v v2 : Value) (s : TSet) (wall : List Int) (cut dl : Int) (w : World) (h : IsSet w v s) (h2 : IsInts w v2 wall)
    (e : chkErr s = 0) (e4 : (wall.length : Int) = sizeI s) (e5 : onceErr s wall = 0) (e6 : ¬ (cut < 0 ∨ sizeI s ≤ cut ∨ dl < 0 ∨ s.pl ≤ dl)) :
    Calls Try.prog 25 #[v, v2, .int .i64 cut, .int .i64 dl] w (DealRes w s wall cut dl) := by
  have CH := fun W (hg : Grow w W) => Check_any v s W (h.grow hg)
  have SZ := fun W (hg : Grow w W) => Size_any v s W (h.grow hg)
  have ON := fun W (hg : Grow w W) => once_any v v2 s wall W (h.grow hg) (h2.grow hg)
  have hb := size_bound s
  have H2 := hid h2
  obtain ⟨A2, e2, rfl, q1, q2, rT⟩ := h2
  unfold maxLen at q2
  have HI := hid h
  obtain ⟨A, c, B, d, rfl, h1, k2⟩ := h.open_
  obtain ⟨_, _, e1, c1, m1, r1⟩ := h1
  obtain ⟨_, _, e2x, d1, m2, r2⟩ := k2
  injection e1 with e1 _ e1'
  injection e2x with e2x _ e2'
  subst e1 e1' e2x e2'
  unfold maxLen at m1 m2
  have HG0 := hid (show Grow w (w.alloc (.cells #[.int .i64 s.pl, .slice A s.su.length c, .int .i64 s.wi, .int .i64 s.dr, .int .i64 s.fl, .int .i64 s.co, .int .i64 s.me, .int .i64 s.de, .slice B s.re.length d] 24)) from (Grow.refl w).alloc _)
  have HB0 := hid (show Blk (w.alloc (.cells #[.int .i64 s.pl, .slice A s.su.length c, .int .i64 s.wi, .int .i64 s.dr, .int .i64 s.fl, .int .i64 s.co, .int .i64 s.me, .int .i64 s.de, .slice B s.re.length d] 24)) w.heap.size 24 (setVals s (.slice A s.su.length c) (.slice B s.re.length d)) from heap_alloc_new w _)
  clear h
  have V := valid_of e
  have HV := hid (show s.pl * (3 * s.me + 1) + s.de < sizeI s by rw [size_ok e]; exact V.full)
  have n1 : ((wall.length : Int) != sizeI s) = false := by simp [e4]
  have HE := hid (show dealErr s wall cut dl = 0 by unfold dealErr; rw [if_neg (by omega), if_neg (by omega), if_neg e6])
  rw [e] at CH
  rw [e5] at ON
  have CH := hid CH
  have SZ := hid SZ
  have ON := hid ON
  obtain ⟨K, rfl⟩ := Int.eq_ofNat_of_zero_le (show 0 ≤ cut by omega)
  have a1 : ¬ (K : Int) < 0 := by omega
  have a2 : (K : Int) < sizeI s := by omega
  have a3 : ¬ dl < 0 := by omega
  have a4 : dl < s.pl := by omega
  have hv1 := V.pl
  have hv2 := V.me
  have hv3 := V.de
  clear e V e5 e6
  go_enter Try.func25, Try.ntmps25
  go_wp2_with (first
    | (go_at_call 38; refine (CH.out _ HG0.out).mono ?_; rintro e w1 ⟨rfl, hg1⟩; have hg := HG0.out.trans hg1; obtain ⟨c0, c1, c2, c3, c4, c5, c6, c7, c8⟩ := set_cells (HB0.out.grow hg1))
    | (go_at_call 30; refine (SZ.out _ hg).mono ?_; rintro e w2 ⟨rfl, hg2⟩; have hgg := hg.trans hg2; clear c0 c1 c2 c3 c4 c5 c6 c7 c8; obtain ⟨c0, c1, c2, c3, c4, c5, c6, c7, c8⟩ := set_cells ((HB0.out.grow hg1).grow hg2))
    | (go_at_call 81; refine (ON.out _ hgg).mono ?_; rintro e w3 ⟨rfl, hg3⟩; have hg4 := hgg.trans hg3; have b4 := ((HB0.out.grow hg1).grow hg2).grow hg3; clear c0 c1 c2 c3 c4 c5 c6 c7 c8; obtain ⟨c0, c1, c2, c3, c4, c5, c6, c7, c8⟩ := set_cells b4))
  clear hg1 hg2 hg3 hg hgg
  obtain ⟨ad, rfl, _, _⟩ := rT.int (k := 0) (by omega)
  have g1 : (0 : Int) ≤ (K : Int) := by omega
  have g2 : (K : Int) ≤ (wall.length : Int) := by omega
  have g3 : (K : Int) ≤ (e2 : Int) := by omega
  have g4 : ¬ e2 = K := by omega
  have g5 : K ≤ wall.length := by omega
  have s1 := run_behind 22 Try.underlying22 ad wall.length e2 K (by omega) (by omega)
  have s2 := run_first 22 Try.underlying22 ad wall.length e2 K (by omega)
  have g6 : K ≤ e2 := by omega
  have hTL : w.heap.size < w3.heap.size := b4.lt
  have bL0 : Blk (w3.alloc (.cells #[.slice (some (ad.add K)) (wall.length - K) (e2 - K), .slice (some ad) K e2] 22)).drew w3.heap.size 22 [.slice (some (ad.add K)) (wall.length - K) (e2 - K), .slice (some ad) K e2] := Blk.grow (show Blk (w3.alloc (.cells #[.slice (some (ad.add K)) (wall.length - K) (e2 - K), .slice (some ad) K e2] 22)) w3.heap.size 22 [.slice (some (ad.add K)) (wall.length - K) (e2 - K), .slice (some ad) K e2] from heap_alloc_new w3 _) (Grow.refl _).drew
  have g3d : Grow w3 (w3.alloc (.cells #[.slice (some (ad.add K)) (wall.length - K) (e2 - K), .slice (some ad) K e2] 22)).drew := ((Grow.refl w3).alloc _).drew
  have i1 := ints_drop (H2.out.grow (hg4.trans g3d)) (k := K) (by omega)
  rw [if_neg (show ¬ e2 = K by omega)] at i1
  have i2 := ints_take (H2.out.grow (hg4.trans g3d)) (n := K) (by omega)
  have CC := hid (concat_two w3.heap.size _ _ _ _ _ bL0 i1 i2 (by rw [List.length_drop, List.length_take]; omega))
  clear bL0 i1 i2
  go_region_law (first | (go_simp; go_at_call 82; refine CC.out.mono ?_; rintro e w5 ⟨vR, rfl, hoR, hgR⟩) | (go_at_call 82; refine CC.out.mono ?_; rintro e w5 ⟨vR, rfl, hoR, hgR⟩))
  have hTw : w.heap.size < w5.heap.size := by have := (g3d.trans hgR).size; omega
  have b5 := b4.grow (g3d.trans hgR)
  have hg5 := hg4.trans (g3d.trans hgR)
  have kR := hoR.is
  have hlR : (wall.drop K ++ wall.take K).length = wall.length := by rw [List.length_append, List.length_drop, List.length_take]; omega
  obtain ⟨vs0, hvs0⟩ : ∃ r, r = wall.drop K ++ wall.take K := ⟨_, rfl⟩
  rw [← hvs0] at kR hlR
  have HR := hid (And.intro kR hvs0)
  obtain ⟨AR, cR, rfl, z1, z2, _⟩ := kR
  clear c0 c1 c2 c3 c4 c5 c6 c7 c8 hoR hgR g3d hg4 b4 hTL hvs0 s1 s2
  obtain ⟨c0, c1, c2, c3, c4, c5, c6, c7, c8⟩ := set_cells b5
  obtain ⟨P, hP⟩ := Int.eq_ofNat_of_zero_le (show 0 ≤ s.pl by omega)
  have hp0 : (0 : Int) ≤ s.pl := by omega
  have hp1 : s.pl ≤ 4 := by omega
  go_wp2_with (at_make; refine wpList_make_blk w5 _ rfl (.tmp 63) (.tmp 63) _ rfl 22 (.slice none 0 0) 24 Try.underlying36 infoList rfl _ _ _ _ P rfl rfl (by omega) (by omega) (by omega) (by omega) (Grow.refl _) ?_; intro G w6 bG hG0 hG1 hg6 _; have b6 := b5.grow hg6; clear c0 c1 c2 c3 c4 c5 c6 c7 c8; obtain ⟨c0, c1, c2, c3, c4, c5, c6, c7, c8⟩ := set_cells b6)
  obtain ⟨D, hD⟩ := Int.eq_ofNat_of_zero_le (show 0 ≤ dl by omega)
  obtain ⟨L, hL⟩ := Int.eq_ofNat_of_zero_le (show 0 ≤ 3 * s.me + 1 by omega)
  have hP34 : P = 3 ∨ P = 4 := by omega
  have hDP : D < P := by omega
  have hL1 : L ≤ 13 := by omega
  have HD := hid hD
  have d0 : 0 ≤ dl := by omega
  have d1 : dl ≤ 4 := by omega
  obtain ⟨X, hX⟩ := Int.eq_ofNat_of_zero_le hv3.1
  obtain ⟨z, hz⟩ : ∃ z, z = dealtI s wall K dl := ⟨_, rfl⟩
  have HZ := hid hz
  have st0 : OutSt w5 w6 G P D X z (.slice AR wall.length cR) L := by
    refine ⟨vs0, _, _, 13, by rw [← hlR]; exact HR.out.1, Hands.nils bG hG0, hg6, ?_, by omega, by omega, fun l hl => ?_, by simp, ?_⟩
    · unfold Enough; rw [hlR]
      have := HV.out
      rw [hP, hL, hX] at this
      rcases hP34 with rfl | rfl <;> omega
    · obtain ⟨_, rfl⟩ := List.mem_replicate.1 hl; simp
    · rw [hz]; unfold dealtI
      rw [hP, hL, HR.out.2, hD]; simp
  have ST0 := hid st0
  rw [hL]
  have HB6 := hid b5
  have HX := hid hX
  have HX2 := hid (show X = s.de.toNat by omega)
  clear st0 hD hz hX
  go_loopw [14, 15, 16, 17, 18] (fun rest lack _ _ _ wr => ∃ lk : Nat, lk ≤ 13 ∧ lack = .int .i64 (lk : Int) ∧ OutSt w5 wr G P D X z rest lk) (fun _ lack _ _ _ _ => (intOf lack).toNat)
  case atStart => exact ⟨L, hL1, rfl, ST0.out⟩
  case round =>
    obtain ⟨lk, hlk, rfl, hst⟩ := hrel
    by_cases hpos : 0 < lk
    · have HIN := hid hst.into
      clear hst
      rcases someN_is lk with ⟨hm0, hm⟩ | ⟨hm0, hm⟩
      · have j0 : (4 : Int) ≤ (lk : Int) := by omega
        have b9 := HB6.out.grow HIN.out.grows
        clear c0 c1 c2 c3 c4 c5 c6 c7 c8
        obtain ⟨c0, c1, c2, c3, c4, c5, c6, c7, c8⟩ := set_cells b9
        have HM := hid hm
        clear hm b9
        go_wp2
        go_loopw [14, 17, 18, 75] (fun rest _ _ i wr => ∃ k : Nat, k ≤ P ∧ i = .int .i64 (k : Int) ∧ InSt w5 wr G P D X z rest lk k) (fun _ _ _ i _ => P - (intOf i).toNat)
        case atStart => exact ⟨0, by omega, rfl, HIN.out⟩
        case round =>
          obtain ⟨k, hk, rfl, hin⟩ := hrel
          have b9 := HB6.out.grow hin.grows
          obtain ⟨c0, c1, c2, c3, c4, c5, c6, c7, c8⟩ := set_cells b9
          by_cases hlt : k < P
          · obtain ⟨r, hs, vs, f, h1, h2, h3, h4, h5, h6, h7, h8, h9⟩ := hin
            have hE := h4.step hP34 hpos hlt
            have hM := HM.out
            rw [hM] at h1 hE
            have hS : (D + k) % P < P := Nat.mod_lt _ (by omega)
            have hgl : (giveN P D (someN lk) k hs r).length = P := by rw [giveN_length, h8]
            have hSl : (D + k) % P < (giveN P D (someN lk) k hs r).length := by omega
            obtain ⟨v, hv, hl, hc, ho⟩ := h2.got hSl
            have hb := giveN_bound (show someN lk ≤ 4 by omega) h7 k _ (List.getElem_mem hSl)
            obtain ⟨Ar, cr, rfl, y1, y2, yr⟩ := id h1
            have hrl : 4 ≤ (r.drop (k * 4)).length := by rw [List.length_drop]; omega
            obtain ⟨ar, rfl, -, -⟩ := yr.int (k := 0) (by omega)
            obtain ⟨s3, i3⟩ := first_any 22 Try.underlying22 (kz := 4) h1 hrl rfl
            obtain ⟨B3, s4, i4⟩ := behind_any 22 Try.underlying22 (kz := 4) h1 hrl rfl
            have gd : Grow wr wr.drew := (Grow.refl wr).drew
            obtain ⟨v', w', hrun, ho', hg', hgb, ha⟩ := run_append_at w5 wr.drew 22 22 Try.underlying22 v _ _ _ (ho.keep fun _ _ => rfl) (i3.grow (h3.trans gd)) (by rw [List.length_take]; omega) (h3.trans gd)
            obtain ⟨A9, m9, c9, rfl⟩ : ∃ A m c, v' = .slice A m c := by obtain ⟨A, c, e, _⟩ := ho'.is; exact ⟨A, _, c, e⟩
            have hcd := gd.cell_some hc
            have hbw := (h2.grow gd).kept hv hgb
            have f0 := hbw.free ((D + k) % P)
            have c0' := hbw.cell ((D + k) % P)
            rw [hv] at c0'
            have NEW := hid (InSt.step (rest' := .slice B3 ((r.drop (k * 4)).length - 4) (cr - 4)) hM (h2.grow gd) h4 h5 h6 h7 h8 h9 hv hl ho' hgb ha hg' i4)
            have hSI : (dl + (k : Int)) % (P : Int) = (((D + k) % P : Nat) : Int) := by rw [HD.out, Int.natCast_emod, Int.natCast_add]
            have HRUN := hid hrun
            clear hb hrun ho' hgb ha hg' i4 ho hv h7 h9 h2 i3 h1 y1 y2 yr hE
            generalize (r.drop (k * 4)).length = n3 at *
            generalize (D + k) % P = S at *
            have q1 : (0 : Int) ≤ (S : Int) := by omega
            have q2 : (S : Int) < (P : Int) := by omega
            go_wp2
            go_region_law (refine step_append_run rfl (.tmp 89) (.tmp 92) _ rfl rfl rfl HRUN.out ?_)
            all_goals
              go_wp2
              exact ⟨⟨k + 1, by omega, by go_num, NEW.out⟩, by simp only [intOf]; omega⟩
          · obtain rfl : k = P := by omega
            have OUT := hid (hin.out hP34 hpos hlk)
            rw [HM.out] at OUT
            have hge : ¬ (k : Int) < (k : Int) := by omega
            have hlm : ((lk - 4 : Nat) : Int) = (lk : Int) - 4 := by omega
            have HLM := hid hlm
            clear hin hlm
            go_wp2
            exact ⟨⟨lk - 4, by omega, by rw [HLM.out], OUT.out⟩, by simp only [intOf]; omega⟩
      · have j0 : ¬ (4 : Int) ≤ (lk : Int) := by omega
        have b9 := HB6.out.grow HIN.out.grows
        clear c0 c1 c2 c3 c4 c5 c6 c7 c8
        obtain ⟨c0, c1, c2, c3, c4, c5, c6, c7, c8⟩ := set_cells b9
        have HM := hid hm
        clear hm b9
        go_wp2
        go_loopw [14, 17, 18, 75] (fun rest _ _ i wr => ∃ k : Nat, k ≤ P ∧ i = .int .i64 (k : Int) ∧ InSt w5 wr G P D X z rest lk k) (fun _ _ _ i _ => P - (intOf i).toNat)
        case atStart => exact ⟨0, by omega, rfl, HIN.out⟩
        case round =>
          obtain ⟨k, hk, rfl, hin⟩ := hrel
          have b9 := HB6.out.grow hin.grows
          obtain ⟨c0, c1, c2, c3, c4, c5, c6, c7, c8⟩ := set_cells b9
          by_cases hlt : k < P
          · obtain ⟨r, hs, vs, f, h1, h2, h3, h4, h5, h6, h7, h8, h9⟩ := hin
            have hE := h4.step hP34 hpos hlt
            have hM := HM.out
            rw [hM] at h1 hE
            have hS : (D + k) % P < P := Nat.mod_lt _ (by omega)
            have hgl : (giveN P D (someN lk) k hs r).length = P := by rw [giveN_length, h8]
            have hSl : (D + k) % P < (giveN P D (someN lk) k hs r).length := by omega
            obtain ⟨v, hv, hl, hc, ho⟩ := h2.got hSl
            have hb := giveN_bound (show someN lk ≤ 4 by omega) h7 k _ (List.getElem_mem hSl)
            obtain ⟨Ar, cr, rfl, y1, y2, yr⟩ := id h1
            have hrl : 1 ≤ (r.drop (k * 1)).length := by rw [List.length_drop]; omega
            obtain ⟨ar, rfl, -, -⟩ := yr.int (k := 0) (by omega)
            obtain ⟨s3, i3⟩ := first_any 22 Try.underlying22 (kz := 1) h1 hrl rfl
            obtain ⟨B3, s4, i4⟩ := behind_any 22 Try.underlying22 (kz := 1) h1 hrl rfl
            have gd : Grow wr wr.drew := (Grow.refl wr).drew
            obtain ⟨v', w', hrun, ho', hg', hgb, ha⟩ := run_append_at w5 wr.drew 22 22 Try.underlying22 v _ _ _ (ho.keep fun _ _ => rfl) (i3.grow (h3.trans gd)) (by rw [List.length_take]; omega) (h3.trans gd)
            obtain ⟨A9, m9, c9, rfl⟩ : ∃ A m c, v' = .slice A m c := by obtain ⟨A, c, e, _⟩ := ho'.is; exact ⟨A, _, c, e⟩
            have hcd := gd.cell_some hc
            have hbw := (h2.grow gd).kept hv hgb
            have f0 := hbw.free ((D + k) % P)
            have c0' := hbw.cell ((D + k) % P)
            rw [hv] at c0'
            have NEW := hid (InSt.step (rest' := .slice B3 ((r.drop (k * 1)).length - 1) (cr - 1)) hM (h2.grow gd) h4 h5 h6 h7 h8 h9 hv hl ho' hgb ha hg' i4)
            have hSI : (dl + (k : Int)) % (P : Int) = (((D + k) % P : Nat) : Int) := by rw [HD.out, Int.natCast_emod, Int.natCast_add]
            have HRUN := hid hrun
            clear hb hrun ho' hgb ha hg' i4 ho hv h7 h9 h2 i3 h1 y1 y2 yr hE
            generalize (r.drop (k * 1)).length = n3 at *
            generalize (D + k) % P = S at *
            have q1 : (0 : Int) ≤ (S : Int) := by omega
            have q2 : (S : Int) < (P : Int) := by omega
            go_wp2
            go_region_law (refine step_append_run rfl (.tmp 89) (.tmp 92) _ rfl rfl rfl HRUN.out ?_)
            all_goals
              go_wp2
              exact ⟨⟨k + 1, by omega, by go_num, NEW.out⟩, by simp only [intOf]; omega⟩
          · obtain rfl : k = P := by omega
            have OUT := hid (hin.out hP34 hpos hlk)
            rw [HM.out] at OUT
            have hge : ¬ (k : Int) < (k : Int) := by omega
            have hlm : ((lk - 1 : Nat) : Int) = (lk : Int) - 1 := by omega
            have HLM := hid hlm
            clear hin hlm
            go_wp2
            exact ⟨⟨lk - 1, by omega, by rw [HLM.out], OUT.out⟩, by simp only [intOf]; omega⟩
    · obtain rfl : lk = 0 := by omega
      obtain ⟨r, hs, vs, f, h1, h2, h3, h4, h5, h6, h7, h8, h9⟩ := hst
      have b9 := HB6.out.grow h3
      clear c0 c1 c2 c3 c4 c5 c6 c7 c8
      obtain ⟨c0, c1, c2, c3, c4, c5, c6, c7, c8⟩ := set_cells b9
      unfold Enough at h4
      have hX := HX.out
      rw [dealF_zero] at h9
      obtain ⟨Ar, cr, rfl, y1, y2, yr⟩ := id h1
      obtain ⟨E, hE⟩ : ∃ E, E = r.length - X := ⟨_, rfl⟩
      have e1 : (E : Int) = (r.length : Int) - (X : Int) := by omega
      obtain ⟨s5, i5⟩ := first_opt 22 Try.underlying22 (kz := (E : Int)) (k := E) h1 (by omega) rfl
      obtain ⟨B6, s6, i6⟩ := behind_opt 22 Try.underlying22 (kz := (E : Int)) (k := E) h1 (by omega) rfl
      have gd : Grow wr wr.drew := (Grow.refl wr).drew
      have i5 := i5.grow (h3.trans gd)
      have IB := hid (fun W (g : Grow wr.drew W) => i6.grow ((h3.trans gd).trans g))
      have FIN := hid (And.intro (And.intro h2 h3) (And.intro h9 hE))
      have l5 : (r.take E).length ≤ 1000000 := by rw [List.length_take]; omega
      have l6 : (r.drop E).length ≤ 1000000 := by rw [List.length_drop]; omega
      have CL := hid (fun vv zz W (h : IsInts W vv zz) (hl : zz.length ≤ 1000000) => clone_any vv zz W h hl)
      clear h2 h3 h9 i6 h1 yr hE b9 h7
      generalize hn : r.length = n at *
      have e2 : (n : Int) - (X : Int) = (E : Int) := by omega
      have HN := hid hn
      clear hn e1
      go_wp2
      go_region_law (first
        | (have o1 := oA; go_simp; go_at_call 79; refine (CL.out _ _ _ iB l6).mono ?_; rintro e wB ⟨vB, rfl, oB, gB⟩)
        | (go_simp; go_at_call 79; refine (CL.out _ _ _ i5 l5).mono ?_; rintro e wA ⟨vA, rfl, oA, gA⟩; have iB := IB.out wA gA))
      all_goals
        go_wp2
        refine bodyPost_ret (v := .tuple #[.slice (some ⟨G, 0, none⟩) P P, vA, vB, .int .i64 0]) (by simp [results, Try.results25, go_sem]) rfl ?_
        obtain ⟨⟨h2, h3⟩, h9, hE⟩ := FIN.out
        have hz := h9.trans HZ.out
        have hN : (hs, r).2.length - X = E := by show r.length - X = E; rw [HN.out]; exact hE.symm
        have hg7 := h3.trans (gd.trans (gA.trans gB))
        refine ⟨_, _, _, by rw [HE.out], hg5.trans hg7, fun h => absurd HE.out h, fun _ => ⟨?_, ?_, G, vs, by rw [show s.pl.toNat = P by omega], h2.blk.grow (gd.trans (gA.trans gB)), ?_, fun i v l hv hl => ?_⟩⟩
        · have := (oA.is).grow gB
          unfold liveI
          rw [← hz, ← HX2.out, hN]
          exact this
        · have := oB.is
          unfold deadI
          rw [← hz, ← HX2.out, hN]
          exact this
        · rw [← hz]; exact h2.len
        · rw [← hz] at hl
          exact ((h2.own i v l hv hl).is).grow (gd.trans (gA.trans gB))
end Go.Proofs.Ytjiahcfegfimmaa
