/-
  The walk of the reference's Deal.
-/
import Derived.Test.YtjiahcfegfimmaaRDealL
import Derived.Test.YtjiahcfegfimmaaRising
import Derived.Test.YtjiahcfegfimmaaQuietG
import Derived.Deep.RegionLaw
import Derived.Deep.Cut
import Derived.Outline
namespace Go.Proofs.Ytjiahcfegfimmaa
open Go.RowKit

theorem Own.of_empty {w W : World} {k : Nat} (hk : w.heap.size ≤ k) (hb : W.heap[k]? = some (.cells #[] 3 (0, 0))) : Own w W (.slice (some ⟨k, 0, none⟩) 0 0) [] :=
  ⟨rfl, .inr ⟨k, 0, #[], rfl, hk, hb, Nat.le_refl _, Nat.zero_le _, rfl, rfl⟩⟩
/-- Two lists, each appended to an empty literal of its own, laid in whatever order. -/
def Cat2 (w : World) (t ty1 ty2 : TypeId) (x y : Value) (xs ys : List Int) (n m : Nat) (w0 : World) (b1 : Nat) (lay : World → World) (b2 : World → Nat) : Prop :=
  ∃ A1 c1 w1 A2 c2 w2, (Builtin.append_ #[t, t] ty1 #[.slice (some ⟨b1, 0, none⟩) 0 0, x]).run Try.prog w0 = .ok (.slice A1 n c1) w1 ∧
    (Builtin.append_ #[t, t] ty2 #[.slice (some ⟨b2 w1, 0, none⟩) 0 0, y]).run Try.prog (lay w1) = .ok (.slice A2 m c2) w2 ∧ IsInts w2 (.slice A1 n c1) xs ∧ IsInts w2 (.slice A2 m c2) ys ∧ Grow w w2
section
variable {t ty1 ty2 : TypeId} {x y : Value} {xs ys : List Int} {w : World} {n m : Nat}
theorem cat2_end {w1 W1 : World} {v1 : Value} {k : Nat} (ht : Try.prog.underlying t = some (.slice 3)) (hy : IsInts w y ys) (hl : ys.length ≤ 1000000) (o1 : Own w w1 v1 xs) (g1 : Grow w w1) (hW : Grow w1 W1) (hk : w.heap.size ≤ k)
    (hb : W1.heap[k]? = some (.cells #[] 3 (0, 0))) (hne : v1.ownBlock ≠ some k) (hm : ys.length = m) :
    ∃ A2 c2 w2, (Builtin.append_ #[t, t] ty2 #[.slice (some ⟨k, 0, none⟩) 0 0, y]).run Try.prog W1 = .ok (.slice A2 m c2) w2 ∧ IsInts w2 v1 xs ∧ IsInts w2 (.slice A2 m c2) ys ∧ Grow w w2 := by
  have gW := g1.trans hW
  obtain ⟨v2, w2, r2, o2, g2, b2⟩ := run_append_ints w W1 t ty2 ht _ y [] ys (Own.of_empty hk hb) (hy.grow gW) (by simp; omega) gW
  rw [List.nil_append] at o2
  obtain ⟨A2, c2, rfl, _⟩ := id o2.is
  have i2 := o2.is
  rw [hm] at r2 i2
  have ow : Own w w2 v1 xs := o1.keep fun j hj => by
    have hlt := (o1.blk hj).2.1
    have h1 := b2.block j (by have := hW.size; omega) (fun e => hne (by rw [hj]; simpa [Value.ownBlock] using e))
    rw [h1]
    exact hW.blk hlt
  exact ⟨A2, c2, w2, r2, ow.is, i2, g2⟩
theorem cat2_a (ht : Try.prog.underlying t = some (.slice 3)) (hx : IsInts w x xs) (hy : IsInts w y ys) (h1 : xs.length ≤ 1000000) (h2 : ys.length ≤ 1000000) (hn : xs.length = n) (hm : ys.length = m) :
    Cat2 w t ty1 ty2 x y xs ys n m (w.alloc (.cells #[] 3)).drew w.heap.size (fun w1 => w1.alloc (.cells #[] 3)) (fun w1 => w1.heap.size) := by
  have g0 : Grow w (w.alloc (.cells #[] 3)).drew := ((Grow.refl w).alloc _).drew
  have hb0 : (w.alloc (.cells #[] 3)).drew.heap[w.heap.size]? = some (.cells #[] 3 (0, 0)) := heap_alloc_new w _
  obtain ⟨v1, w1, r1, o1, g1, b1⟩ := run_append_ints w _ t ty1 ht _ x [] xs (Own.of_empty (Nat.le_refl _) hb0) (hx.grow g0) (by simp; omega) g0
  rw [List.nil_append] at o1
  obtain ⟨A1, c1, rfl, _⟩ := id o1.is
  obtain ⟨A2, c2, w2, r2, i1, i2, g2⟩ := cat2_end (ty2 := ty2) (m := m) ht hy h2 o1 g1 ((Grow.refl w1).alloc (.cells #[] 3)) g1.size (heap_alloc_new w1 _) (fun e => by have := (o1.blk e).2.1; omega) hm
  rw [hn] at r1 i1
  exact ⟨A1, c1, w1, A2, c2, w2, r1, r2, i1, i2, g2⟩
theorem cat2_b (ht : Try.prog.underlying t = some (.slice 3)) (hx : IsInts w x xs) (hy : IsInts w y ys) (h1 : xs.length ≤ 1000000) (h2 : ys.length ≤ 1000000) (hn : xs.length = n) (hm : ys.length = m) (k1 k2 : Nat) (hk : k1 = w.heap.size ∧ k2 = w.heap.size + 1 ∨ k1 = w.heap.size + 1 ∧ k2 = w.heap.size) :
    Cat2 w t ty1 ty2 x y xs ys n m ((w.alloc (.cells #[] 3)).alloc (.cells #[] 3)).drew k1 (fun w1 => w1) (fun _ => k2) := by
  have g0 : Grow w ((w.alloc (.cells #[] 3)).alloc (.cells #[] 3)).drew := (((Grow.refl w).alloc _).alloc _).drew
  have ba : ((w.alloc (.cells #[] 3)).alloc (.cells #[] 3)).drew.heap[w.heap.size]? = some (.cells #[] 3 (0, 0)) :=
    ((Grow.refl (w.alloc (.cells #[] 3))).alloc (.cells #[] 3)).blk_some (heap_alloc_new w _)
  have bb : ((w.alloc (.cells #[] 3)).alloc (.cells #[] 3)).drew.heap[w.heap.size + 1]? = some (.cells #[] 3 (0, 0)) := by
    have := heap_alloc_new (w.alloc (.cells #[] 3)) (.cells #[] 3)
    rw [show (w.alloc (.cells #[] 3)).heap.size = w.heap.size + 1 by simp] at this
    exact this
  have hb1 : ((w.alloc (.cells #[] 3)).alloc (.cells #[] 3)).drew.heap[k1]? = some (.cells #[] 3 (0, 0)) := by rcases hk with ⟨rfl, _⟩ | ⟨rfl, _⟩ <;> assumption
  have hb2 : ((w.alloc (.cells #[] 3)).alloc (.cells #[] 3)).drew.heap[k2]? = some (.cells #[] 3 (0, 0)) := by rcases hk with ⟨_, rfl⟩ | ⟨_, rfl⟩ <;> assumption
  have hne : k1 ≠ k2 := by omega
  have hk1 : w.heap.size ≤ k1 := by omega
  have hk2 : w.heap.size ≤ k2 := by omega
  obtain ⟨v1, w1, r1, o1, g1, b1, a1⟩ := run_append_at w _ t ty1 ht _ x [] xs (Own.of_empty hk1 hb1) (hx.grow g0) (by simp; omega) g0
  rw [List.nil_append] at o1
  have hb3 : w1.heap[k2]? = some (.cells #[] 3 (0, 0)) := (b1.block _ (lt_of_block hb2) (fun e => hne (by simpa [Value.ownBlock] using e.symm))).trans hb2
  have hlt2 := lt_of_block hb2
  obtain ⟨A1, c1, rfl, _⟩ := id o1.is
  obtain ⟨A2, c2, w2, r2, i1, i2, g2⟩ := cat2_end (ty2 := ty2) (m := m) ht hy h2 o1 g1 (Grow.refl w1) hk2 hb3 (fun e => by
    rw [e] at a1
    rcases a1 with h | h
    · simp [Value.ownBlock] at h; omega
    · injection h with h; omega) hm
  rw [hn] at r1 i1
  exact ⟨A1, c1, w1, A2, c2, w2, r1, r2, i1, i2, g2⟩
end

set_option maxRecDepth 100000 in
set_option maxHeartbeats 40000000 in
theorem rDeal_ok (v v2 : Value) (s : TSet) (wall : List Int) (cut dl : Int) (w : World) (h : IsSet w v s) (h2 : IsInts w v2 wall) (hz : RangeZ wall)
    (e : chkErr s = 0) (e4 : (wall.length : Int) = sizeI s) (e5 : onceErr s wall = 0) (e6 : ¬ (cut < 0 ∨ sizeI s ≤ cut ∨ dl < 0 ∨ s.pl ≤ dl)) :
    Calls Try.prog 26 #[v, v2, .int .i64 cut, .int .i64 dl] w (DealRes w s wall cut dl) := by
  have CH := fun W (hg : Grow w W) => rCheck_any v s W (h.grow hg)
  have WH := fun W (hg : Grow w W) => Whole_any v v2 s wall W (h.grow hg) (h2.grow hg) hz e
  have BW := hid (fun n lo hi W => between_any n lo hi W)
  have hb := size_bound s
  have H2 := hid h2
  obtain ⟨A2, e2, rfl, q1, q2, _⟩ := h2
  unfold maxLen at q2
  have V := valid_of e
  have HV := hid (show s.pl * (3 * s.me + 1) + s.de < sizeI s by rw [size_ok e]; exact V.full)
  have HE := hid (show dealErr s wall cut dl = 0 by unfold dealErr; rw [if_neg (by omega), if_neg (by omega), if_neg e6])
  have hwh : wholeB s wall = true := by
    unfold wholeB
    unfold onceErr at e5
    rw [if_neg (by omega)] at e5
    simp [e4, e5]
  rw [hwh] at WH
  rw [e] at CH
  have CH := hid CH
  have WH := hid WH
  have HSZ := hid e4
  have B1 := hid (show btwB cut 0 ((wall.length : Int) - 1) = true from btw_yes (by omega))
  have B2 := hid (show btwB dl 0 (s.pl - 1) = true from btw_yes (by omega))
  have BC := hid (fun W => by have h := between_any cut 0 ((wall.length : Int) - 1) W; rw [B1.out] at h; exact h)
  have BD := hid (fun W => by have h := between_any dl 0 (s.pl - 1) W; rw [B2.out] at h; exact h)
  obtain ⟨K, rfl⟩ := Int.eq_ofNat_of_zero_le (show 0 ≤ cut by omega)
  have kw : K < wall.length := by omega
  have wl144 : wall.length ≤ 144 := by omega
  have d0 : 0 ≤ dl := by omega
  have d2 : dl < s.pl := by omega
  have hv1 := V.pl
  have hv2 := V.me
  have hv3 := V.de
  clear e V e5 e6 hwh hb hz e4
  have HI := hid h
  obtain ⟨A, c, B, d, rfl, h1, h2⟩ := h.open_
  obtain ⟨_, _, e1, c1, m1, r1⟩ := h1
  obtain ⟨_, _, e2, d1, m2, r2⟩ := h2
  injection e1 with e1 _ e1'
  injection e2 with e2 _ e2'
  subst e1 e1' e2 e2'
  unfold maxLen at m1 m2
  have HG0 := hid (show Grow w (w.alloc (.cells #[.int .i64 s.pl, .slice A s.su.length c, .int .i64 s.wi, .int .i64 s.dr, .int .i64 s.fl, .int .i64 s.co, .int .i64 s.me, .int .i64 s.de, .slice B s.re.length d] 24)) from (Grow.refl w).alloc _)
  have HB0 := hid (show Blk (w.alloc (.cells #[.int .i64 s.pl, .slice A s.su.length c, .int .i64 s.wi, .int .i64 s.dr, .int .i64 s.fl, .int .i64 s.co, .int .i64 s.me, .int .i64 s.de, .slice B s.re.length d] 24)) w.heap.size 24 (setVals s (.slice A s.su.length c) (.slice B s.re.length d)) from heap_alloc_new w _)
  clear h
  go_enter Try.func26, Try.ntmps26
  have KS := hid (fun W (hg : Grow (w.alloc (.cells #[.int .i64 s.pl, .slice A s.su.length c, .int .i64 s.wi, .int .i64 s.dr, .int .i64 s.fl, .int .i64 s.co, .int .i64 s.me, .int .i64 s.de, .slice B s.re.length d] 24)) W) => And.intro hg (set_cells (HB0.out.grow hg)))
  have G0 := hid (fun W (hg : Grow (w.alloc (.cells #[.int .i64 s.pl, .slice A s.su.length c, .int .i64 s.wi, .int .i64 s.dr, .int .i64 s.fl, .int .i64 s.co, .int .i64 s.me, .int .i64 s.de, .slice B s.re.length d] 24)) W) => HG0.out.trans hg)
  have HTw := hid (show w.heap.size < (w.alloc (.cells #[.int .i64 s.pl, .slice A s.su.length c, .int .i64 s.wi, .int .i64 s.dr, .int .i64 s.fl, .int .i64 s.co, .int .i64 s.me, .int .i64 s.de, .slice B s.re.length d] 24)).heap.size by simp)
  obtain ⟨-, c0, c1, c2, c3, c4, c5, c6, c7, c8⟩ := KS.out _ (Grow.refl _)
  go_wp2_with (first
    | (go_at_call 39; refine (CH.out _ HG0.out).mono ?_; rintro e w1 ⟨rfl, hg1⟩; clear c0 c1 c2 c3 c4 c5 c6 c7 c8; obtain ⟨-, c0, c1, c2, c3, c4, c5, c6, c7, c8⟩ := KS.out _ hg1)
    | (go_at_call 83; refine (WH.out _ (HG0.out.trans hg1)).mono ?_; rintro e w2 ⟨rfl, hg2⟩; clear c0 c1 c2 c3 c4 c5 c6 c7 c8; have hk2 := hg1.trans hg2; obtain ⟨-, c0, c1, c2, c3, c4, c5, c6, c7, c8⟩ := KS.out _ hk2)
    | (go_at_call 84; first | ((with_reducible refine (BC.out _).mono ?_); rintro e w' ⟨rfl, rfl⟩) | ((with_reducible refine (BD.out _).mono ?_); rintro e w' ⟨rfl, rfl⟩)))
  have HK2 := hid hk2
  clear hg1 hg2 hk2 c0 c1 c2 c3 c4 c5 c6 c7 c8
  obtain ⟨s1, i1⟩ := first_opt 22 Try.underlying22 (kz := (K : Int)) (H2.out.grow (G0.out _ HK2.out)) (Nat.le_of_lt kw) rfl
  obtain ⟨BX, s2, i2⟩ := behind_opt 22 Try.underlying22 (kz := (K : Int)) (H2.out.grow (G0.out _ HK2.out)) (Nat.le_of_lt kw) rfl
  obtain ⟨v1, wA, AV, cV, w5, r1, r2, iv, ov, hg5⟩ := cat_two 22 Try.underlying22 22 22 _ _ _ _ w2 i2 i1 (by rw [List.length_drop, List.length_take]; omega)
  obtain ⟨n, hn⟩ : ∃ n : Nat, wall.length = n := ⟨_, rfl⟩
  have hl : (wall.drop K).length + (wall.take K).length = n := by rw [List.length_drop, List.length_take]; omega
  rw [hl] at r2 iv
  have R1 := hid r1
  have R2 := hid r2
  obtain ⟨vs0, hvs0⟩ : ∃ r, r = wall.drop K ++ wall.take K := ⟨_, rfl⟩
  rw [← hvs0] at iv
  have HVL := hid (show vs0.length = n by rw [hvs0, List.length_append]; exact hl)
  have HIR := hid iv
  have HVS := hid hvs0
  have HN := hid hn
  have n144 : n ≤ 144 := by omega
  have a2 : (K : Int) < (wall.length : Int) := by omega
  have qc : wall.length ≤ e2 := q1
  clear r1 r2 hl ov iv hvs0 i1 i2 hn
  go_region_law (first | (refine step_append_run rfl (.tmp 45) (.tmp 48) _ rfl rfl rfl R1.out ?_) | (refine step_append_run rfl (.tmp 49) (.tmp 52) _ rfl rfl rfl R2.out ?_))
  have hk5 := HK2.out.trans hg5
  have KS5 := hid (fun W (hg : Grow w5 W) => And.intro hg (KS.out W (hk5.trans hg)).2)
  have G5 := hid (fun W (hg : Grow w5 W) => G0.out W (hk5.trans hg))
  clear s1 s2 hg5 hk5 a2 qc
  obtain ⟨-, c0, c1, c2, c3, c4, c5, c6, c7, c8⟩ := KS5.out _ (Grow.refl _)
  obtain ⟨P, hP⟩ := Int.eq_ofNat_of_zero_le (show 0 ≤ s.pl by omega)
  have hp0 : (0 : Int) ≤ s.pl := by omega
  have hp1 : s.pl ≤ 4 := by omega
  go_wp2_with (at_make; refine wpList_make_blk w5 _ rfl (.tmp 55) (.tmp 55) _ rfl 22 (.slice none 0 0) 24 Try.underlying36 infoList rfl _ _ _ _ P rfl rfl (by omega) (by omega) (by omega) (by omega) (Grow.refl _) ?_; intro G w6 bG hG0 hG1 hg6 _; clear c0 c1 c2 c3 c4 c5 c6 c7 c8; obtain ⟨-, c0, c1, c2, c3, c4, c5, c6, c7, c8⟩ := KS5.out _ hg6)
  obtain ⟨D, hD⟩ := Int.eq_ofNat_of_zero_le (show 0 ≤ dl by omega)
  obtain ⟨L, hL⟩ := Int.eq_ofNat_of_zero_le (show 0 ≤ 3 * s.me + 1 by omega)
  have hP34 : P = 3 ∨ P = 4 := by omega
  have hDP : D < P := by omega
  have hL1 : L ≤ 13 := by omega
  have HD := hid hD
  have d1' : dl ≤ 4 := by omega
  obtain ⟨X, hX⟩ := Int.eq_ofNat_of_zero_le hv3.1
  obtain ⟨z, hz⟩ : ∃ z, z = dealtI s wall K dl := ⟨_, rfl⟩
  have HZ := hid hz
  have st0 : ROut w5 w6 G P D X z vs0 L 0 := by
    refine ⟨_, _, 13, Hands.nils bG hG0, hg6, ?_, by omega, by have := HVL.out; omega, fun l hl => ?_, by simp, ?_, by omega⟩
    · unfold Enough; rw [List.drop_zero, HVL.out]
      have := HV.out
      rw [hP, hL, hX] at this
      have := HN.out
      have := HSZ.out
      rcases hP34 with rfl | rfl <;> omega
    · obtain ⟨_, rfl⟩ := List.mem_replicate.1 hl; simp
    · rw [hz]; unfold dealtI
      rw [hP, hL, List.drop_zero, HVS.out, hD]; simp
  have ST0 := hid st0
  have HP := hid hP
  have HL := hid hL
  have HX := hid hX
  have HX2 := hid (show X = s.de.toNat by omega)
  have FWL := hid (show IntKind.i64.wrap (IntKind.i64.wrap (3 * s.me) + 1) = (L : Int) by rw [IntWalk.i64_in (3 * s.me) (by omega), IntWalk.i64_in _ (by omega)]; exact hL)
  clear st0 hD hz hX hP hL
  go_quiet (fail)
  rw [HL.out]
  have ST1 := hid (ST0.out.more ((Grow.refl w6).drewN nq))
  clear ST0
  generalize w6.drewN nq = w7 at *
  clear c0 c1 c2 c3 c4 c5 c6 c7 c8
  obtain ⟨-, c0, c1, c2, c3, c4, c5, c6, c7, c8⟩ := KS5.out _ ST1.out.grows
  go_wp2
  go_loopw [15, 17, 18, 19, 20] (fun a h _ _ _ wr => ∃ hh lk at_ : Nat, hh + lk = L ∧ lk ≤ 13 ∧ at_ ≤ 144 ∧ h = .int .i64 (hh : Int) ∧ a = .int .i64 (at_ : Int) ∧ ROut w5 wr G P D X z vs0 lk at_) (fun _ h _ _ _ _ => L - (intOf h).toNat)
  case atStart => exact ⟨0, L, 0, by omega, hL1, by omega, rfl, rfl, ST1.out⟩
  case round =>
    obtain ⟨hh, lk, at_, hsum, hlk, hat, rfl, rfl, hst⟩ := hrel
    have HSUM := hid hsum
    have k0 : (0 : Int) ≤ (hh : Int) := by omega
    have k1 : (hh : Int) ≤ 13 := by omega
    have k2 : (L : Int) ≤ 13 := by omega
    by_cases hpos : 0 < lk
    · have HIN := hid hst.into
      have k3 : (hh : Int) < (L : Int) := by omega
      clear hst
      rcases someN_is lk with ⟨hm0, hm⟩ | ⟨hm0, hm⟩
      · have j0 : (4 : Int) ≤ (lk : Int) := by omega
        have j00 : (4 : Int) ≤ (L : Int) - (hh : Int) := by omega
        have b9 := KS5.out _ HIN.out.grows
        clear c0 c1 c2 c3 c4 c5 c6 c7 c8
        obtain ⟨-, c0, c1, c2, c3, c4, c5, c6, c7, c8⟩ := b9
        have HM := hid hm
        clear hm
        go_wp2
        go_loopw [15, 19, 20] (fun a i _ wr => ∃ k x : Nat, k ≤ P ∧ x ≤ 144 ∧ i = .int .i64 (k : Int) ∧ a = .int .i64 (x : Int) ∧ RIn w5 wr G P D X z vs0 lk at_ k x) (fun _ i _ _ => P - (intOf i).toNat)
        case atStart => exact ⟨0, at_, by omega, by omega, rfl, rfl, HIN.out⟩
        case round =>
          obtain ⟨k, x, hk, hx4, rfl, rfl, hin⟩ := hrel
          obtain ⟨-, c0, c1, c2, c3, c4, c5, c6, c7, c8⟩ := KS5.out _ hin.grows
          rw [HP.out] at c0
          by_cases hlt : k < P
          · obtain ⟨hxe, hs, vs, f, h2, h3, h4, h5, h6, h7, h8, h9, h10⟩ := hin
            have hE := h4.step hP34 hpos hlt
            have hM := HM.out
            rw [hM] at hxe hE
            rw [List.length_drop] at hE
            have hS : (D + k) % P < P := Nat.mod_lt _ (by omega)
            have hgl : (giveN P D (someN lk) k hs (vs0.drop at_)).length = P := by rw [giveN_length, h8]
            have hSl : (D + k) % P < (giveN P D (someN lk) k hs (vs0.drop at_)).length := by omega
            obtain ⟨v, hv, hl, hc, ho⟩ := h2.got hSl
            have hb := giveN_bound (show someN lk ≤ 4 by omega) h7 k _ (List.getElem_mem hSl)
            have hxn : x + 4 ≤ n := by have := HVL.out; omega
            obtain ⟨B3, s4, i4⟩ := mid_opt 22 Try.underlying22 (lo := x) (k := 4) (kl := (x : Int)) (kh := (x : Int) + 4) HIR.out hxn rfl rfl
            have gd : Grow wr wr.drew := (Grow.refl wr).drew
            obtain ⟨v', w', hrun, ho', hg', hgb, ha⟩ := run_append_at w5 wr.drew 22 22 Try.underlying22 v _ _ _ (ho.keep fun _ _ => rfl) (i4.grow (h3.trans gd)) (by rw [List.length_take]; omega) (h3.trans gd)
            obtain ⟨A9, m9, c9, rfl⟩ : ∃ A m c, v' = .slice A m c := by obtain ⟨A, c, e, _⟩ := ho'.is; exact ⟨A, _, c, e⟩
            have hcd := gd.cell_some hc
            have hbw := (h2.grow gd).kept hv hgb
            have f0 := hbw.free ((D + k) % P)
            have c0' := hbw.cell ((D + k) % P)
            rw [hv] at c0'
            have NEW := hid (RIn.step hM hxe (h2.grow gd) h4 h5 h6 h7 h8 h9 h10 hv hl ho' hgb ha hg')
            have hSI : (dl + (k : Int)) % (P : Int) = (((D + k) % P : Nat) : Int) := by rw [HD.out, Int.natCast_emod, Int.natCast_add]
            have HRUN := hid hrun
            have xb := hid (show x + 4 ≤ 144 by have := HVL.out; omega)
            have FW := hid (show IntKind.i64.wrap ((x : Int) + 4) = (x : Int) + 4 from IntWalk.i64_in _ (by omega))
            clear hb hrun ho' hgb ha hg' i4 ho hv hl h7 h9 h2 hE hxe h4 hgl hSl hM h5 h6 h10
            generalize (D + k) % P = S at *
            have q1 : (0 : Int) ≤ (S : Int) := by omega
            have q2 : (S : Int) < (P : Int) := by omega
            have q3 : (k : Int) < (P : Int) := by omega
            have q4 : (0 : Int) ≤ (x : Int) := by omega
            have q5 : (x : Int) ≤ 144 := by omega
            go_wp2
            have FW2 := FW.out
            go_region_law (refine step_append_run rfl (.tmp 85) (.tmp 91) _ rfl rfl rfl HRUN.out ?_)
            all_goals
              clear FW2
              go_wp2
              exact ⟨⟨k + 1, x + 4, by omega, xb.out, by go_num, by go_num, NEW.out⟩, by simp only [intOf]; omega⟩
          · obtain rfl : k = P := by omega
            have OUT := hid (hin.out hP34 hpos hlk)
            rw [HM.out] at OUT
            have hge : ¬ (k : Int) < (k : Int) := by omega
            clear hin
            go_wp2
            exact ⟨⟨hh + 4, lk - 4, x, by omega, by omega, by omega, by go_num, rfl, OUT.out⟩, by simp only [intOf]; omega⟩
      · have j0 : ¬ (4 : Int) ≤ (lk : Int) := by omega
        have j00 : ¬ (4 : Int) ≤ (L : Int) - (hh : Int) := by omega
        have b9 := KS5.out _ HIN.out.grows
        clear c0 c1 c2 c3 c4 c5 c6 c7 c8
        obtain ⟨-, c0, c1, c2, c3, c4, c5, c6, c7, c8⟩ := b9
        have HM := hid hm
        clear hm
        go_wp2
        go_loopw [15, 19, 20] (fun a i _ wr => ∃ k x : Nat, k ≤ P ∧ x ≤ 144 ∧ i = .int .i64 (k : Int) ∧ a = .int .i64 (x : Int) ∧ RIn w5 wr G P D X z vs0 lk at_ k x) (fun _ i _ _ => P - (intOf i).toNat)
        case atStart => exact ⟨0, at_, by omega, by omega, rfl, rfl, HIN.out⟩
        case round =>
          obtain ⟨k, x, hk, hx4, rfl, rfl, hin⟩ := hrel
          obtain ⟨-, c0, c1, c2, c3, c4, c5, c6, c7, c8⟩ := KS5.out _ hin.grows
          rw [HP.out] at c0
          by_cases hlt : k < P
          · obtain ⟨hxe, hs, vs, f, h2, h3, h4, h5, h6, h7, h8, h9, h10⟩ := hin
            have hE := h4.step hP34 hpos hlt
            have hM := HM.out
            rw [hM] at hxe hE
            rw [List.length_drop] at hE
            have hS : (D + k) % P < P := Nat.mod_lt _ (by omega)
            have hgl : (giveN P D (someN lk) k hs (vs0.drop at_)).length = P := by rw [giveN_length, h8]
            have hSl : (D + k) % P < (giveN P D (someN lk) k hs (vs0.drop at_)).length := by omega
            obtain ⟨v, hv, hl, hc, ho⟩ := h2.got hSl
            have hb := giveN_bound (show someN lk ≤ 4 by omega) h7 k _ (List.getElem_mem hSl)
            have hxn : x + 1 ≤ n := by have := HVL.out; omega
            obtain ⟨B3, s4, i4⟩ := mid_opt 22 Try.underlying22 (lo := x) (k := 1) (kl := (x : Int)) (kh := (x : Int) + 1) HIR.out hxn rfl rfl
            have gd : Grow wr wr.drew := (Grow.refl wr).drew
            obtain ⟨v', w', hrun, ho', hg', hgb, ha⟩ := run_append_at w5 wr.drew 22 22 Try.underlying22 v _ _ _ (ho.keep fun _ _ => rfl) (i4.grow (h3.trans gd)) (by rw [List.length_take]; omega) (h3.trans gd)
            obtain ⟨A9, m9, c9, rfl⟩ : ∃ A m c, v' = .slice A m c := by obtain ⟨A, c, e, _⟩ := ho'.is; exact ⟨A, _, c, e⟩
            have hcd := gd.cell_some hc
            have hbw := (h2.grow gd).kept hv hgb
            have f0 := hbw.free ((D + k) % P)
            have c0' := hbw.cell ((D + k) % P)
            rw [hv] at c0'
            have NEW := hid (RIn.step hM hxe (h2.grow gd) h4 h5 h6 h7 h8 h9 h10 hv hl ho' hgb ha hg')
            have hSI : (dl + (k : Int)) % (P : Int) = (((D + k) % P : Nat) : Int) := by rw [HD.out, Int.natCast_emod, Int.natCast_add]
            have HRUN := hid hrun
            have xb := hid (show x + 1 ≤ 144 by have := HVL.out; omega)
            have FW := hid (show IntKind.i64.wrap ((x : Int) + 1) = (x : Int) + 1 from IntWalk.i64_in _ (by omega))
            clear hb hrun ho' hgb ha hg' i4 ho hv hl h7 h9 h2 hE hxe h4 hgl hSl hM h5 h6 h10
            generalize (D + k) % P = S at *
            have q1 : (0 : Int) ≤ (S : Int) := by omega
            have q2 : (S : Int) < (P : Int) := by omega
            have q3 : (k : Int) < (P : Int) := by omega
            have q4 : (0 : Int) ≤ (x : Int) := by omega
            have q5 : (x : Int) ≤ 144 := by omega
            go_wp2
            have FW2 := FW.out
            go_region_law (refine step_append_run rfl (.tmp 85) (.tmp 91) _ rfl rfl rfl HRUN.out ?_)
            all_goals
              clear FW2
              go_wp2
              exact ⟨⟨k + 1, x + 1, by omega, xb.out, by go_num, by go_num, NEW.out⟩, by simp only [intOf]; omega⟩
          · obtain rfl : k = P := by omega
            have OUT := hid (hin.out hP34 hpos hlk)
            rw [HM.out] at OUT
            have hge : ¬ (k : Int) < (k : Int) := by omega
            clear hin
            go_wp2
            exact ⟨⟨hh + 1, lk - 1, x, by omega, by omega, by omega, by go_num, rfl, OUT.out⟩, by simp only [intOf]; omega⟩
    · obtain rfl : lk = 0 := by omega
      have k3 : ¬ (hh : Int) < (L : Int) := by omega
      obtain ⟨-, c0, c1, c2, c3, c4, c5, c6, c7, c8⟩ := KS5.out _ hst.grows
      obtain ⟨hs, vs, f, h2, h3, h4, h5, h6, h7, h8, h9, h10⟩ := hst
      unfold Enough at h4
      rw [List.length_drop, HVL.out] at h4
      have h10' : at_ ≤ n := by have := HVL.out; omega
      rw [dealF_zero] at h9
      obtain ⟨E, hE⟩ : ∃ E, E = n - X := ⟨_, rfl⟩
      have hEa : at_ ≤ E := by omega
      obtain ⟨B5, s5, i5⟩ := mid_opt 22 Try.underlying22 (lo := at_) (k := E - at_) (kl := (at_ : Int)) (kh := (E : Int)) HIR.out (by omega) rfl (by omega)
      obtain ⟨B6, s6, i6⟩ := behind_opt 22 Try.underlying22 (kz := (E : Int)) (k := E) HIR.out (by omega) rfl
      have e3 : (n : Int) - (X : Int) = (E : Int) := by omega
      have E3 := hid e3
      rw [show s.de = (X : Int) from HX.out] at c7
      have FIN := hid (show ∀ (A1 A2 : Option Addr) (c1 c2 : Nat) (w2 : World), IsInts w2 (.slice A1 (E - at_) c1) ((vs0.drop at_).take (E - at_)) → IsInts w2 (.slice A2 (n - E) c2) (vs0.drop E) → Grow wr w2 → DealRes w s wall K dl (.returned (.tuple #[.slice (some ⟨G, 0, none⟩) P P, .slice A1 (E - at_) c1, .slice A2 (n - E) c2, .int .i64 0])) w2 from fun A1 A2 c1 c2 w2 j1 j2 g2 => by
        have hz := h9.trans HZ.out
        have z1 : (dealtI s wall K dl).1 = hs := by rw [← hz]
        have z2 : (dealtI s wall K dl).2 = vs0.drop at_ := by rw [← hz]
        have zl : (vs0.drop at_).length - X = E - at_ := by rw [List.length_drop, HVL.out]; omega
        refine ⟨_, _, _, by rw [HE.out], G5.out _ (h3.trans g2), fun h => absurd HE.out h, fun _ => ⟨?_, ?_, G, vs, by rw [show s.pl.toNat = P by have := HP.out; omega], h2.blk.grow g2, ?_, fun i v l hv hl => ?_⟩⟩
        · unfold liveI
          rw [z2, ← HX2.out, zl]
          exact j1
        · unfold deadI
          rw [z2, ← HX2.out, zl, List.drop_drop, show at_ + (E - at_) = E by omega]
          exact j2
        · rw [z1]; exact h2.len
        · rw [z1] at hl
          exact ((h2.own i v l hv hl).is).grow g2)
      have g5w := h3
      have LT := hid (And.intro (show ((vs0.drop at_).take (E - at_)).length = E - at_ by rw [List.length_take, List.length_drop, HVL.out]; omega) (show (vs0.drop E).length = n - E by rw [List.length_drop, HVL.out]))
      have I56 := hid (And.intro i5 i6)
      have EL := hid (show E ≤ 144 by omega)
      clear h2 h3 h9 h7 h8 hE i5 i6 h4 h5 h6 h10 hat hsum
      go_upto_region 24 with (fail)
      clear e3
      have GW := hid g5w
      obtain ⟨Aa1, ca1, wa1, Aa2, ca2, wa2, ra1, ra2, ja1, ja2, ga⟩ := cat2_a (ty1 := 22) (ty2 := 22) Try.underlying22 (I56.out.1.grow g5w) (I56.out.2.grow g5w) (by rw [LT.out.1]; have := EL.out; omega) (by rw [LT.out.2]; omega) LT.out.1 LT.out.2
      obtain ⟨Ab1, cb1, wb1, Ab2, cb2, wb2, rb1, rb2, jb1, jb2, gb⟩ := cat2_b (ty1 := 22) (ty2 := 22) Try.underlying22 (I56.out.1.grow g5w) (I56.out.2.grow g5w) (by rw [LT.out.1]; have := EL.out; omega) (by rw [LT.out.2]; omega) LT.out.1 LT.out.2 wr.heap.size (wr.heap.size + 1) (.inl ⟨rfl, rfl⟩)
      obtain ⟨Ac1, cc1, wc1, Ac2, cc2, wc2, rc1, rc2, jc1, jc2, gc⟩ := cat2_b (ty1 := 22) (ty2 := 22) Try.underlying22 (I56.out.1.grow g5w) (I56.out.2.grow g5w) (by rw [LT.out.1]; have := EL.out; omega) (by rw [LT.out.2]; omega) LT.out.1 LT.out.2 (wr.heap.size + 1) wr.heap.size (.inr ⟨rfl, rfl⟩)
      dsimp only at ra2 rb2 rc2
      have RA := hid (And.intro ra1 ra2)
      have RB := hid (And.intro rb1 rb2)
      have RC := hid (And.intro rc1 rc2)
      have FA := hid (FIN.out _ _ _ _ _ ja1 ja2 ga)
      have FB := hid (FIN.out _ _ _ _ _ jb1 jb2 gb)
      have FC := hid (FIN.out _ _ _ _ _ jc1 jc2 gc)
      clear ra1 ra2 rb1 rb2 rc1 rc2 ja1 ja2 jb1 jb2 jc1 jc2 ga gb gc g5w
      go_region_law (first
        | (refine step_append_eq RA.out.1 (.tmp 106) (.tmp 110) ?_ ?_ ?_ ?_ ?_ ?_ ?_; exact rfl; exact rfl; exact rfl; exact rfl; exact rfl; (with_reducible exact rfl))
        | (refine step_append_eq RB.out.1 (.tmp 106) (.tmp 110) ?_ ?_ ?_ ?_ ?_ ?_ ?_; exact rfl; exact rfl; exact rfl; exact rfl; exact rfl; (with_reducible exact rfl))
        | (refine step_append_eq RC.out.1 (.tmp 106) (.tmp 110) ?_ ?_ ?_ ?_ ?_ ?_ ?_; exact rfl; exact rfl; exact rfl; exact rfl; exact rfl; (with_reducible exact rfl))
        | (refine step_append_eq RA.out.2 (.tmp 112) (.tmp 115) ?_ ?_ ?_ ?_ ?_ ?_ ?_; exact rfl; exact rfl; exact rfl; exact rfl; exact rfl; (with_reducible exact rfl))
        | (refine step_append_eq RB.out.2 (.tmp 112) (.tmp 115) ?_ ?_ ?_ ?_ ?_ ?_ ?_; exact rfl; exact rfl; exact rfl; exact rfl; exact rfl; (with_reducible exact rfl))
        | (refine step_append_eq RC.out.2 (.tmp 112) (.tmp 115) ?_ ?_ ?_ ?_ ?_ ?_ ?_; exact rfl; exact rfl; exact rfl; exact rfl; exact rfl; (with_reducible exact rfl)))
      all_goals
        go_wp2
        first
          | exact bodyPost_ret (v := .tuple #[.slice (some ⟨G, 0, none⟩) P P, .slice Aa1 (E - at_) ca1, .slice Aa2 (n - E) ca2, .int .i64 0]) (by simp [results, Try.results26, go_sem]) rfl FA.out
          | exact bodyPost_ret (v := .tuple #[.slice (some ⟨G, 0, none⟩) P P, .slice Ab1 (E - at_) cb1, .slice Ab2 (n - E) cb2, .int .i64 0]) (by simp [results, Try.results26, go_sem]) rfl FB.out
          | exact bodyPost_ret (v := .tuple #[.slice (some ⟨G, 0, none⟩) P P, .slice Ac1 (E - at_) cc1, .slice Ac2 (n - E) cc2, .int .i64 0]) (by simp [results, Try.results26, go_sem]) rfl FC.out
end Go.Proofs.Ytjiahcfegfimmaa
