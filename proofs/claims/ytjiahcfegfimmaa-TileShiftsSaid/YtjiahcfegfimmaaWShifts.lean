/-
  The walk of the law TileShifts.
-/
import Derived.Test.YtjiahcfegfimmaaHRows
import Derived.Test.YtjiahcfegfimmaaRounds
import Derived.Test.YtjiahcfegfimmaaLong
import Derived.Test.YtjiahcfegfimmaaEq
import Derived.Test.YtjiahcfegfimmaaQuietG
import Derived.Deep.Cut
import Derived.Outline
namespace Go.Proofs.Ytjiahcfegfimmaa
open Go.RowKit

set_option maxRecDepth 100000 in
set_option maxHeartbeats 40000000 in
theorem walkTileShifts (v : Value) (zs : List Int) (seed k1 k2 k3 : Int) (w : World) (h : IsInts w v zs) (_hz : ∀ z ∈ zs, (Lit.int .i64 z).wf = true) (_hs : (Lit.int .u64 seed).wf = true) (hk1 : (Lit.int .i64 k1).wf = true) (hk2 : (Lit.int .i64 k2).wf = true) (hk3 : (Lit.int .i64 k3).wf = true) :
    Calls Try.prog 8 #[v, .int .u64 seed, .int .i64 k1, .int .i64 k2, .int .i64 k3] w (Gives w (.bool true)) := by
  have hk1 := wf_range hk1
  have hk2 := wf_range hk2
  have hk3 := wf_range hk3
  go_enter Try.func8, Try.ntmps8
  go_wp2_with fail
  refine (NewSource_any _ zs w h).mono ?_
  rintro e w1 ⟨g, rfl, hgw, hs1, hg1⟩
  go_wp2_with fail
  refine (SetOf_any g _ hs1).mono ?_
  rintro e w2 ⟨v', s, rfl, hi, hc, -, hb2⟩
  obtain ⟨A, c, B, d, rfl, -, -⟩ := hi.is.open_
  have HH := hid (set_head hg1 hgw hb2 hi)
  have V := valid_of hc
  clear hs1 hg1 hgw hb2 hi h _hz
  go_upto_region 2 with (refine wpList_store_row (by rfl) 24 (.tmp 11) (.tmp 29) (by rfl) w2.heap.size #[.int .i64 s.pl, .slice A s.su.length c, .int .i64 s.wi, .int .i64 s.dr, .int .i64 s.fl, .int .i64 s.co, .int .i64 s.me, .int .i64 s.de, .slice B s.re.length d] (by rfl) (by rfl) 24 _ (heap_alloc_new w2 _) (by kernel_rfl) (by rfl) (by simp [Value.oneCell']) ?_)
  have HH : Hid (Blk ((w2.alloc (.cells #[.int .i64 0, .slice none 0 0, .int .i64 0, .int .i64 0, .int .i64 0, .int .i64 0, .int .i64 0, .int .i64 0, .slice none 0 0] 24)).setRow w2.heap.size #[.int .i64 s.pl, .slice A s.su.length c, .int .i64 s.wi, .int .i64 s.dr, .int .i64 s.fl, .int .i64 s.co, .int .i64 s.me, .int .i64 s.de, .slice B s.re.length d]) w2.heap.size 24 (setVals s (.slice A s.su.length c) (.slice B s.re.length d)) ∧ IsSet ((w2.alloc (.cells #[.int .i64 0, .slice none 0 0, .int .i64 0, .int .i64 0, .int .i64 0, .int .i64 0, .int .i64 0, .int .i64 0, .slice none 0 0] 24)).setRow w2.heap.size #[.int .i64 s.pl, .slice A s.su.length c, .int .i64 s.wi, .int .i64 s.dr, .int .i64 s.fl, .int .i64 s.co, .int .i64 s.me, .int .i64 s.de, .slice B s.re.length d]) (.agg #[.int .i64 s.pl, .slice A s.su.length c, .int .i64 s.wi, .int .i64 s.dr, .int .i64 s.fl, .int .i64 s.co, .int .i64 s.me, .int .i64 s.de, .slice B s.re.length d]) s ∧ Grow w ((w2.alloc (.cells #[.int .i64 0, .slice none 0 0, .int .i64 0, .int .i64 0, .int .i64 0, .int .i64 0, .int .i64 0, .int .i64 0, .slice none 0 0] 24)).setRow w2.heap.size #[.int .i64 s.pl, .slice A s.su.length c, .int .i64 s.wi, .int .i64 s.dr, .int .i64 s.fl, .int .i64 s.co, .int .i64 s.me, .int .i64 s.de, .slice B s.re.length d]) ∧ w2.heap.size < ((w2.alloc (.cells #[.int .i64 0, .slice none 0 0, .int .i64 0, .int .i64 0, .int .i64 0, .int .i64 0, .int .i64 0, .int .i64 0, .slice none 0 0] 24)).setRow w2.heap.size #[.int .i64 s.pl, .slice A s.su.length c, .int .i64 s.wi, .int .i64 s.dr, .int .i64 s.fl, .int .i64 s.co, .int .i64 s.me, .int .i64 s.de, .slice B s.re.length d]).heap.size) := HH
  generalize ((w2.alloc (.cells #[.int .i64 0, .slice none 0 0, .int .i64 0, .int .i64 0, .int .i64 0, .int .i64 0, .int .i64 0, .int .i64 0, .slice none 0 0] 24)).setRow w2.heap.size #[.int .i64 s.pl, .slice A s.su.length c, .int .i64 s.wi, .int .i64 s.dr, .int .i64 s.fl, .int .i64 s.co, .int .i64 s.me, .int .i64 s.de, .slice B s.re.length d]) = W0 at *
  generalize w2.heap.size = T at *
  have KS := hid (fun W (hg : Grow W0 W) => And.intro hg (set_cells (HH.out.1.grow hg)))
  have HG := hid (fun W (hg : Grow W0 W) => HH.out.2.2.1.trans hg)
  have SI := hid (fun W (hg : Grow W0 W) => HH.out.2.1.grow hg)
  have hT := HH.out.2.2.2
  have hsz := size_pos V
  rw [← size_ok hc] at hsz
  have hsb := size_bound s
  have hwl := wall_length s seed
  have hWP := part_wall s seed
  have WL := fun W n (hg : Grow W0 W) (hn : (wallI s seed).length = n) => wall_is (.agg #[.int .i64 s.pl, .slice A s.su.length c, .int .i64 s.wi, .int .i64 s.dr, .int .i64 s.fl, .int .i64 s.co, .int .i64 s.me, .int .i64 s.de, .slice B s.re.length d]) s seed W (SI.out W hg) hn
  generalize wallI s seed = wl at *
  obtain ⟨n, hn⟩ : ∃ n : Nat, wl.length = n := ⟨_, rfl⟩
  have WL := hid (fun W (hg : Grow W0 W) => WL W n hg hn)
  have hnz : (wl.length : Int) = sizeI s := by omega
  have n1 : 1 ≤ n := by omega
  have n2 : n ≤ 144 := by omega
  obtain ⟨P, hP⟩ := Int.eq_ofNat_of_zero_le (show 0 ≤ s.pl by have := V.pl; omega)
  have P34 : 3 ≤ P ∧ P ≤ 4 := by have := V.pl; omega
  have e1 := Int.emod_nonneg k1 (show (n : Int) ≠ 0 by omega)
  have e2 := Int.emod_lt_of_pos k1 (show 0 < (n : Int) by omega)
  have f1 := Int.emod_nonneg k2 (show (P : Int) ≠ 0 by omega)
  have f2 := Int.emod_lt_of_pos k2 (show 0 < (P : Int) by omega)
  have g1 := Int.emod_nonneg k3 (show (P : Int) ≠ 0 by omega)
  have g2 := Int.emod_lt_of_pos k3 (show 0 < (P : Int) by omega)
  have IN1 := fun W => Into_any k1 (n : Int) W hk1.1 hk1.2 (by omega) (by omega)
  have IN2 := fun W => Into_any k2 (P : Int) W hk2.1 hk2.2 (by omega) (by omega)
  have IN3 := fun W => Into_any k3 (P : Int) W hk3.1 hk3.2 (by omega) (by omega)
  obtain ⟨K, hK⟩ := Int.eq_ofNat_of_zero_le e1
  obtain ⟨D, hD⟩ := Int.eq_ofNat_of_zero_le f1
  obtain ⟨E, hE⟩ := Int.eq_ofNat_of_zero_le g1
  rw [hK] at IN1 e2
  rw [hD] at IN2 f2
  rw [hE] at IN3 g2
  have hKn : K < n := by omega
  have hDP : D < P := by omega
  have hEP : E < P := by omega
  have lcut : (wl.drop K ++ wl.take K).length = n := by rw [List.length_append, List.length_drop, List.length_take]; omega
  have DL1 := hid (fun W vv (hg : Grow W0 W) (h2 : IsInts W vv wl) => deal_is (.agg #[.int .i64 s.pl, .slice A s.su.length c, .int .i64 s.wi, .int .i64 s.dr, .int .i64 s.fl, .int .i64 s.co, .int .i64 s.me, .int .i64 s.de, .slice B s.re.length d]) vv s wl K D W (SI.out W hg) h2 hc hWP hnz (by omega) (by omega) (by omega) (by omega) hP)
  have DL2 := fun W vv (hg : Grow W0 W) (h2 : IsInts W vv (wl.drop K ++ wl.take K)) => deal_is (.agg #[.int .i64 s.pl, .slice A s.su.length c, .int .i64 s.wi, .int .i64 s.dr, .int .i64 s.fl, .int .i64 s.co, .int .i64 s.me, .int .i64 s.de, .slice B s.re.length d]) vv s _ 0 D W (SI.out W hg) h2 hc (hWP.perm (cut_perm wl K)) (by rw [lcut]; omega) (by omega) (by omega) (by omega) (by omega) hP
  have DL3 := hid (fun W vv (hg : Grow W0 W) (h2 : IsInts W vv wl) => deal_is (.agg #[.int .i64 s.pl, .slice A s.su.length c, .int .i64 s.wi, .int .i64 s.dr, .int .i64 s.fl, .int .i64 s.co, .int .i64 s.me, .int .i64 s.de, .slice B s.re.length d]) vv s wl K E W (SI.out W hg) h2 hc hWP hnz (by omega) (by omega) (by omega) (by omega) hP)
  have c1 := dealt_cut s wl K D
  have c2 := live_cut s wl K D
  have c3 := dead_cut s wl K D
  simp only [Int.toNat_natCast] at c1 c2 c3
  rw [c1, c2, c3] at DL2
  have OT := hid (fun k (hk : k < P) => dealt_other (s := s) (l := wl) (cut := (K : Int)) hP hDP hEP hk)
  have L1 := dealt_len s wl K D
  have L3 := dealt_len s wl K E
  generalize (dealtI s wl K D).1 = h1 at *
  generalize (dealtI s wl K E).1 = h3 at *
  generalize liveI s wl K D = l1 at *
  generalize liveI s wl K E = l3 at *
  generalize deadI s wl K D = d1 at *
  generalize deadI s wl K E = d3 at *
  have DL2 := hid DL2
  have LL := hid (And.intro (show h1.length = P by omega) (show h3.length = P by omega))
  have HP := hid hP
  have IN1 := hid IN1
  have IN2 := hid IN2
  have IN3 := hid IN3
  have LC := hid (And.intro (show (wl.drop K).length = n - K by rw [List.length_drop, hn]) (show (wl.take K).length = K by rw [List.length_take]; omega))
  clear L1 L3 c1 c2 c3 hWP hwl hsz hsb V hc hK hD hE e1 f1 g1 hnz hn hP lcut hk1 hk2 hk3
  obtain ⟨-, c0, c1, c2, c3, c4, c5, c6, c7, c8⟩ := KS.out _ (Grow.refl W0)
  go_upto_region 3 with (go_at_call 23; refine (WL.out _ (Grow.refl _)).mono ?_; rintro e w3 ⟨AD, cD, rfl, iw, hg3⟩)
  obtain ⟨s1, i1⟩ := first_opt 22 Try.underlying22 (kz := (K : Int)) iw (Nat.le_of_lt hKn) rfl
  obtain ⟨BD, s2, i2⟩ := behind_opt 22 Try.underlying22 (kz := (K : Int)) iw (Nat.le_of_lt hKn) rfl
  have KS3 := hid (fun W (hg : Grow w3 W) => And.intro hg (KS.out W (hg3.trans hg)).2)
  have G3 := hid (fun W (hg : Grow w3 W) => hg3.trans hg)
  have IW := hid (fun W (hg : Grow w3 W) => iw.grow hg)
  have a1 : (1 : Int) ≤ (n : Int) := by omega
  have a2 : (K : Int) < (n : Int) := by omega
  have qc : n ≤ cD := by
    obtain ⟨A', c', e, h1, h2, h3⟩ := iw
    injection e with e1 e2 e3
    subst e1 e2 e3
    exact h1
  have I12 := hid (And.intro i1 i2)
  clear c0 c1 c2 c3 c4 c5 c6 c7 c8 hg3 iw i1 i2
  obtain ⟨-, c0, c1, c2, c3, c4, c5, c6, c7, c8⟩ := KS3.out _ (Grow.refl _)
  rw [HP.out] at c0
  go_wp2
  have n1' : (1 : Int) ≤ (P : Int) := by omega
  go_quiet ((go_at_call 33; first | (with_reducible exact q_same (IN1.out _)) | (with_reducible exact q_same (IN2.out _)) | (with_reducible exact q_same (IN3.out _))))
  go_wp2
  have hg4 := (Grow.refl w3).drewN nq
  generalize w3.drewN nq = w4 at *
  clear c0 c1 c2 c3 c4 c5 c6 c7 c8
  obtain ⟨v1, wA, AV, cV, w5, r1, r2, iv, ov, hg5⟩ := cat_two 22 Try.underlying22 22 22 _ _ _ _ w4 (I12.out.2.grow hg4) (I12.out.1.grow hg4) (by rw [LC.out.1, LC.out.2]; omega)
  have hl : (wl.drop K).length + (wl.take K).length = n := by rw [LC.out.1, LC.out.2]; omega
  rw [hl] at r2 iv
  have R1 := hid r1
  have R2 := hid r2
  clear r1 r2 hl ov
  go_region_law (first | (refine step_append_run rfl (.tmp 48) (.tmp 51) _ rfl rfl rfl R1.out ?_) | (refine step_append_run rfl (.tmp 52) (.tmp 55) _ rfl rfl rfl R2.out ?_))
  have hk5 := hg4.trans hg5
  have KS5 := hid (fun W (hg : Grow w5 W) => And.intro hg (KS3.out W (hk5.trans hg)).2)
  have G5 := hid (fun W (hg : Grow w5 W) => G3.out W (hk5.trans hg))
  have IW5 := hid (fun W (hg : Grow w5 W) => IW.out W (hk5.trans hg))
  have IV5 := hid (fun W (hg : Grow w5 W) => iv.grow hg)
  clear hg4 hg5 hk5 iv
  obtain ⟨-, c0, c1, c2, c3, c4, c5, c6, c7, c8⟩ := KS5.out _ (Grow.refl _)
  go_upto_region 8 with ((go_at_call 25; refine (DL1.out _ _ (G5.out _ (Grow.refl _)) (IW5.out _ (Grow.refl _))).mono ?_; rintro e w6 ⟨Ah, ch, Al, cl, Ad, cd, rfl, ih, il, id1, hg6⟩))
  have IH1 := hid ih
  have IL1 := hid il
  have ID1 := hid id1
  clear ih il id1 c0 c1 c2 c3 c4 c5 c6 c7 c8
  obtain ⟨-, c0, c1, c2, c3, c4, c5, c6, c7, c8⟩ := KS5.out _ hg6
  go_upto_region 9 with ((go_at_call 25; refine (DL2.out _ _ (G5.out _ hg6) (IV5.out _ hg6)).mono ?_; rintro e w7 ⟨Bh, dh, Bl, dl, Bd, dd, rfl, ih, il, id1, hg7⟩))
  have IH2 := hid ih
  have IL2 := hid il
  have ID2 := hid id1
  clear ih il id1 c0 c1 c2 c3 c4 c5 c6 c7 c8
  have hk7 := hg6.trans hg7
  obtain ⟨-, c0, c1, c2, c3, c4, c5, c6, c7, c8⟩ := KS5.out _ hk7
  go_upto_region 10 with ((go_at_call 25; refine (DL3.out _ _ (G5.out _ hk7) (IW5.out _ hk7)).mono ?_; rintro e w8 ⟨Ch, eh, Cl, el, Cd, ed, rfl, ih, il, id1, hg8⟩))
  have IH3 := hid ih
  clear ih il id1 c0 c1 c2 c3 c4 c5 c6 c7 c8
  have hk8 := hk7.trans hg8
  have KS8 := hid (fun W (hg : Grow w8 W) => And.intro hg (KS5.out W (hk8.trans hg)).2)
  have G8 := hid (fun W (hg : Grow w8 W) => HG.out W (G5.out W (hk8.trans hg)))
  have SH := hid (fun W (hg : Grow w8 W) => sameHands_same _ _ _ W ((IH1.out.grow (hg7.trans hg8)).grow hg) ((IH2.out.grow hg8).grow hg))
  have EL := hid (fun W (hg : Grow w8 W) => Equal_same _ _ _ W ((IL1.out.grow (hg7.trans hg8)).grow hg) ((IL2.out.grow hg8).grow hg))
  have ED := hid (fun W (hg : Grow w8 W) => Equal_same _ _ _ W ((ID1.out.grow (hg7.trans hg8)).grow hg) ((ID2.out.grow hg8).grow hg))
  have RA := hid (fun W (hg : Grow w8 W) => (IH1.out.grow (hg7.trans hg8)).grow hg)
  have RC := hid (fun W (hg : Grow w8 W) => IH3.out.grow hg)
  clear hg6 hg7 hg8 hk7 hk8
  obtain ⟨-, c0, c1, c2, c3, c4, c5, c6, c7, c8⟩ := KS8.out _ (Grow.refl _)
  rw [HP.out] at c0
  go_upto_region 12 with (first
    | (go_at_call 27; (with_reducible refine (SH.out _ (Grow.refl _)).mono ?_); rintro e wa ha; obtain ⟨rfl, hga⟩ := gives_says ha; clear ha c0 c1 c2 c3 c4 c5 c6 c7 c8; obtain ⟨-, c0, c1, c2, c3, c4, c5, c6, c7, c8⟩ := KS8.out _ hga; rw [HP.out] at c0)
    | (go_at_call 22; (with_reducible refine (EL.out _ hga).mono ?_); rintro e wb hb; obtain ⟨rfl, hgb1⟩ := gives_says hb; clear hb c0 c1 c2 c3 c4 c5 c6 c7 c8; have hgb := hga.trans hgb1; obtain ⟨-, c0, c1, c2, c3, c4, c5, c6, c7, c8⟩ := KS8.out _ hgb; rw [HP.out] at c0)
    | (go_at_call 22; (with_reducible refine (ED.out _ hgb).mono ?_); rintro e wc hc; obtain ⟨rfl, hgc1⟩ := gives_says hc; clear hc c0 c1 c2 c3 c4 c5 c6 c7 c8; have hgc := hgb.trans hgc1; obtain ⟨-, c0, c1, c2, c3, c4, c5, c6, c7, c8⟩ := KS8.out _ hgc; rw [HP.out] at c0))
  go_wp2
  go_loopw [26] (fun i wr => ∃ k : Nat, k ≤ P ∧ i = .int .i64 (k : Int) ∧ Grow w8 wr) (fun i _ => P - (intOf i).toNat)
  case atStart => exact ⟨0, Nat.zero_le _, rfl, hgc⟩
  case round =>
    obtain ⟨k, hk, rfl, hgr⟩ := hrel
    clear c0 c1 c2 c3 c4 c5 c6 c7 c8
    obtain ⟨-, c0, c1, c2, c3, c4, c5, c6, c7, c8⟩ := KS8.out _ hgr
    rw [HP.out] at c0
    by_cases hlt : k < P
    · have hS1 : (D + k) % P < P := Nat.mod_lt _ (by omega)
      have hS2 : (E + k) % P < P := Nat.mod_lt _ (by omega)
      obtain ⟨ad1, u1, rfl, x1, y1⟩ := (RA.out _ hgr).row (k := (D + k) % P) (by rw [LL.out.1]; exact hS1)
      obtain ⟨ad2, u2, rfl, x2, y2⟩ := (RC.out _ hgr).row (k := (E + k) % P) (by rw [LL.out.2]; exact hS2)
      have ho := OT.out k hlt
      rw [List.getD_eq_getElem?_getD, List.getD_eq_getElem?_getD, List.getElem?_eq_getElem (by rw [LL.out.1]; exact hS1), List.getElem?_eq_getElem (by rw [LL.out.2]; exact hS2), Option.getD_some, Option.getD_some] at ho
      rw [← ho] at y2
      have EQ := hid (fun n => Equal_same u1 u2 _ (wr.drewN n) (y1.drewN n) (y2.drewN n))
      clear y1 y2 ho
      have m1 : ((D : Int) + (k : Int)) % (P : Int) = (((D + k) % P : Nat) : Int) := by rw [Int.natCast_emod, Int.natCast_add]
      have m2 : ((E : Int) + (k : Int)) % (P : Int) = (((E + k) % P : Nat) : Int) := by rw [Int.natCast_emod, Int.natCast_add]
      generalize (D + k) % P = S1 at *
      generalize (E + k) % P = S2 at *
      have q1 : (0 : Int) ≤ (S1 : Int) := by omega
      have q2 : (S1 : Int) < (P : Int) := by omega
      have q3 : (0 : Int) ≤ (S2 : Int) := by omega
      have q4 : (S2 : Int) < (P : Int) := by omega
      have q5 : (0 : Int) ≤ (D : Int) := by omega
      have q6 : (0 : Int) ≤ (E : Int) := by omega
      have q7 : (D : Int) ≤ 4 := by omega
      have q8 : (E : Int) ≤ 4 := by omega
      have q9 : (k : Int) < (P : Int) := by omega
      have q10 : (P : Int) ≤ 4 := by omega
      go_wp2
      go_quiet ((go_at_call 22; (first | exact q_says' (EQ.out _) | exact q_says (EQ.out _))))
      go_wp2
      exact ⟨⟨k + 1, by omega, by go_num, hgr.drewN _⟩, by simp only [intOf]; omega⟩
    · obtain rfl : k = P := by omega
      have i1 : ¬ (k : Int) < (k : Int) := by omega
      go_wp2_with (go_at_call 21; refine (awake_any _).mono ?_; rintro e wN ⟨rfl, hgN⟩)
      go_ret
      exact ⟨rfl, G8.out _ (hgr.trans hgN)⟩
end Go.Proofs.Ytjiahcfegfimmaa
