/-
  The walk of the law TileAdds.
-/
import Derived.Test.YtjiahcfegfimmaaIs
import Derived.Test.YtjiahcfegfimmaaRounds
import Derived.Test.YtjiahcfegfimmaaLong
import Derived.Test.YtjiahcfegfimmaaEq
import Derived.Test.YtjiahcfegfimmaaDealL
import Derived.Deep.Cut
import Derived.Outline
namespace Go.Proofs.Ytjiahcfegfimmaa
open Go.RowKit

set_option maxRecDepth 100000 in
set_option maxHeartbeats 40000000 in
theorem walkTileAdds (v : Value) (zs : List Int) (seed k : Int) (w : World) (h : IsInts w v zs) (_hz : ∀ z ∈ zs, (Lit.int .i64 z).wf = true) (_hs : (Lit.int .u64 seed).wf = true) (hk : (Lit.int .i64 k).wf = true) :
    Calls Try.prog 15 #[v, .int .u64 seed, .int .i64 k] w (Gives w (.bool true)) := by
  have hkr := wf_range hk
  clear hk
  go_enter Try.func15, Try.ntmps15
  go_wp2_with fail
  refine (NewSource_any _ zs w h).mono ?_
  rintro e w1 ⟨g, rfl, hgw, hs1, hg1⟩
  go_wp2_with fail
  refine (SetOf_any g _ hs1).mono ?_
  rintro e w2 ⟨v', s, rfl, hi, hc, -, hb2⟩
  obtain ⟨A, c, B, d, rfl, -, -⟩ := hi.is.open_
  have HH := hid (set_head hg1 hgw hb2 hi)
  have V := valid_of hc
  clear hs1 hg1 hgw hb2 hi h _hz
  go_upto_region 2 with (refine wpList_store_row (by rfl) 24 (.tmp 7) (.tmp 22) (by rfl) w2.heap.size #[.int .i64 s.pl, .slice A s.su.length c, .int .i64 s.wi, .int .i64 s.dr, .int .i64 s.fl, .int .i64 s.co, .int .i64 s.me, .int .i64 s.de, .slice B s.re.length d] (by rfl) (by rfl) 24 _ (heap_alloc_new w2 _) (by kernel_rfl) (by rfl) (by simp [Value.oneCell']) ?_)
  have HH : Hid (Blk ((w2.alloc (.cells #[.int .i64 0, .slice none 0 0, .int .i64 0, .int .i64 0, .int .i64 0, .int .i64 0, .int .i64 0, .int .i64 0, .slice none 0 0] 24)).setRow w2.heap.size #[.int .i64 s.pl, .slice A s.su.length c, .int .i64 s.wi, .int .i64 s.dr, .int .i64 s.fl, .int .i64 s.co, .int .i64 s.me, .int .i64 s.de, .slice B s.re.length d]) w2.heap.size 24 (setVals s (.slice A s.su.length c) (.slice B s.re.length d)) ∧ IsSet ((w2.alloc (.cells #[.int .i64 0, .slice none 0 0, .int .i64 0, .int .i64 0, .int .i64 0, .int .i64 0, .int .i64 0, .int .i64 0, .slice none 0 0] 24)).setRow w2.heap.size #[.int .i64 s.pl, .slice A s.su.length c, .int .i64 s.wi, .int .i64 s.dr, .int .i64 s.fl, .int .i64 s.co, .int .i64 s.me, .int .i64 s.de, .slice B s.re.length d]) (.agg #[.int .i64 s.pl, .slice A s.su.length c, .int .i64 s.wi, .int .i64 s.dr, .int .i64 s.fl, .int .i64 s.co, .int .i64 s.me, .int .i64 s.de, .slice B s.re.length d]) s ∧ Grow w ((w2.alloc (.cells #[.int .i64 0, .slice none 0 0, .int .i64 0, .int .i64 0, .int .i64 0, .int .i64 0, .int .i64 0, .int .i64 0, .slice none 0 0] 24)).setRow w2.heap.size #[.int .i64 s.pl, .slice A s.su.length c, .int .i64 s.wi, .int .i64 s.dr, .int .i64 s.fl, .int .i64 s.co, .int .i64 s.me, .int .i64 s.de, .slice B s.re.length d]) ∧ w2.heap.size < ((w2.alloc (.cells #[.int .i64 0, .slice none 0 0, .int .i64 0, .int .i64 0, .int .i64 0, .int .i64 0, .int .i64 0, .int .i64 0, .slice none 0 0] 24)).setRow w2.heap.size #[.int .i64 s.pl, .slice A s.su.length c, .int .i64 s.wi, .int .i64 s.dr, .int .i64 s.fl, .int .i64 s.co, .int .i64 s.me, .int .i64 s.de, .slice B s.re.length d]).heap.size) := HH
  generalize ((w2.alloc (.cells #[.int .i64 0, .slice none 0 0, .int .i64 0, .int .i64 0, .int .i64 0, .int .i64 0, .int .i64 0, .int .i64 0, .slice none 0 0] 24)).setRow w2.heap.size #[.int .i64 s.pl, .slice A s.su.length c, .int .i64 s.wi, .int .i64 s.dr, .int .i64 s.fl, .int .i64 s.co, .int .i64 s.me, .int .i64 s.de, .slice B s.re.length d]) = W0 at *
  generalize w2.heap.size = T at *
  have KS := hid (fun W (hg : Grow W0 W) => And.intro hg (set_cells (HH.out.1.grow hg)))
  have HG := hid (fun W (hg : Grow W0 W) => HH.out.2.2.1.trans hg)
  have SI := hid (fun W (hg : Grow W0 W) => HH.out.2.1.grow hg)
  have hT := HH.out.2.2.2
  have hsz := size_pos V
  rw [← size_ok hc] at hsz
  have hsb := size_bound s
  have hwl := wall_length s seed
  have hWP := part_wall s seed
  have BL := fun K => bag_law hc seed K
  have WL := fun W n (hg : Grow W0 W) (hn : (wallI s seed).length = n) => wall_is (.agg #[.int .i64 s.pl, .slice A s.su.length c, .int .i64 s.wi, .int .i64 s.dr, .int .i64 s.fl, .int .i64 s.co, .int .i64 s.me, .int .i64 s.de, .slice B s.re.length d]) s seed W (SI.out W hg) hn
  generalize wallI s seed = wl at *
  obtain ⟨n, hn⟩ : ∃ n : Nat, wl.length = n := ⟨_, rfl⟩
  have WL := hid (fun W (hg : Grow W0 W) => WL W n hg hn)
  have n1 : 1 ≤ n := by omega
  have n2 : n ≤ 144 := by omega
  have e0 := Int.emod_nonneg k (show (n : Int) + 1 ≠ 0 by omega)
  have e1 := Int.emod_lt_of_pos k (show 0 < (n : Int) + 1 by omega)
  have IN := hid (fun W => Into_any k ((n : Int) + 1) W hkr.1 hkr.2 (by omega) (by omega))
  obtain ⟨K, hK⟩ := Int.eq_ofNat_of_zero_le e0
  rw [hK] at IN e1
  have hKn : K ≤ n := by omega
  have PN := hid (fun W (hg : Grow W0 W) => Plain_any (.agg #[.int .i64 s.pl, .slice A s.su.length c, .int .i64 s.wi, .int .i64 s.dr, .int .i64 s.fl, .int .i64 s.co, .int .i64 s.me, .int .i64 s.de, .slice B s.re.length d]) s W (SI.out W hg) (fun z hz => by have := V.su z hz; omega) (by have := V.su3; omega) (by have := V.wi; omega) (by have := V.dr; omega))
  obtain ⟨M, hM⟩ := Int.eq_ofNat_of_zero_le (show 0 ≤ plainI s by have := V.plain; omega)
  rw [hM] at PN
  have hM34 : M ≤ 34 := by have := V.plain; omega
  have BK := BL K
  have l1 : (bagI s (wl.take K)).length = M := by rw [BK.l1]; omega
  have l2 : (bagI s (wl.drop K)).length = M := by rw [BK.l2]; omega
  have l3 : (bagI s wl).length = M := by rw [BK.l3]; omega
  have B1 := hid (fun W vv (hg : Grow W0 W) (h2 : IsInts W vv (wl.take K)) => bag_is (.agg #[.int .i64 s.pl, .slice A s.su.length c, .int .i64 s.wi, .int .i64 s.dr, .int .i64 s.fl, .int .i64 s.co, .int .i64 s.me, .int .i64 s.de, .slice B s.re.length d]) vv s _ W M (SI.out W hg) h2 (hWP.sub (List.take_sublist _ _)) hc (by rw [List.length_take]; omega) l1)
  have B2 := hid (fun W vv (hg : Grow W0 W) (h2 : IsInts W vv (wl.drop K)) => bag_is (.agg #[.int .i64 s.pl, .slice A s.su.length c, .int .i64 s.wi, .int .i64 s.dr, .int .i64 s.fl, .int .i64 s.co, .int .i64 s.me, .int .i64 s.de, .slice B s.re.length d]) vv s _ W M (SI.out W hg) h2 (hWP.sub (List.drop_sublist _ _)) hc (by rw [List.length_drop]; omega) l2)
  have B3 := hid (fun W vv (hg : Grow W0 W) (h2 : IsInts W vv wl) => bag_is (.agg #[.int .i64 s.pl, .slice A s.su.length c, .int .i64 s.wi, .int .i64 s.dr, .int .i64 s.fl, .int .i64 s.co, .int .i64 s.me, .int .i64 s.de, .slice B s.re.length d]) vv s _ W M (SI.out W hg) h2 hWP hc (by omega) l3)
  have F1 := hid (fun W vv (hg : Grow W0 W) (h2 : IsInts W vv wl) => fcs_is (.agg #[.int .i64 s.pl, .slice A s.su.length c, .int .i64 s.wi, .int .i64 s.dr, .int .i64 s.fl, .int .i64 s.co, .int .i64 s.me, .int .i64 s.de, .slice B s.re.length d]) vv s _ W (SI.out W hg) h2 hWP hc (by omega))
  rw [hn] at F1
  have lf : (facesI s wl).length = n := by simp [facesI, hn]
  obtain ⟨re, hre⟩ : ∃ re : Nat, s.re.length = re := ⟨_, rfl⟩
  have FIN := hid (And.intro lf (show redsN (facesI s wl) = re by rw [BK.red, hre]))
  have ALL := hid (And.intro BK.all BK.add)
  have LL := hid (And.intro l1 (And.intro l2 l3))
  obtain ⟨la, hla⟩ : ∃ x, x = bagI s (wl.take K) := ⟨_, rfl⟩
  obtain ⟨lb, hlb⟩ : ∃ x, x = bagI s (wl.drop K) := ⟨_, rfl⟩
  obtain ⟨lc, hlc⟩ : ∃ x, x = bagI s wl := ⟨_, rfl⟩
  obtain ⟨lfs, hlf⟩ : ∃ x, x = facesI s wl := ⟨_, rfl⟩
  rw [← hla] at B1 ALL LL
  rw [← hlb] at B2 ALL LL
  rw [← hlc] at B3 ALL LL
  rw [← hlf] at F1 FIN
  have hco := V.co
  have HRE := hid hre
  clear hre BL BK hla hlb hlc hlf l1 l2 l3 lf hWP hwl hsz hsb V hc hK hM e0 hn
  obtain ⟨-, c0, c1, c2, c3, c4, c5, c6, c7, c8⟩ := KS.out _ (Grow.refl W0)
  go_upto_region 3 with (go_at_call 23; refine (WL.out _ (Grow.refl _)).mono ?_; rintro e w3 ⟨AD, cD, rfl, iw, hg3⟩)
  obtain ⟨s1, i1⟩ := first_opt 22 Try.underlying22 (kz := (K : Int)) iw hKn rfl
  obtain ⟨BD, s2, i2⟩ := behind_opt 22 Try.underlying22 (kz := (K : Int)) iw hKn rfl
  have KS3 := hid (fun W (hg : Grow w3 W) => And.intro hg (KS.out W (hg3.trans hg)).2)
  have G3 := hid (fun W (hg : Grow w3 W) => hg3.trans hg)
  have I1 := hid (fun W (hg : Grow w3 W) => i1.grow hg)
  have I2 := hid (fun W (hg : Grow w3 W) => i2.grow hg)
  have IW := hid (fun W (hg : Grow w3 W) => iw.grow hg)
  have a1 : (1 : Int) ≤ (n : Int) := by omega
  have qc : n ≤ cD := by
    obtain ⟨A', c', e, h1, h2, h3⟩ := iw
    injection e with e1 e2 e3
    subst e1 e2 e3
    exact h1
  clear c0 c1 c2 c3 c4 c5 c6 c7 c8 hg3 iw i1 i2
  obtain ⟨-, c0, c1, c2, c3, c4, c5, c6, c7, c8⟩ := KS3.out _ (Grow.refl _)
  go_wp2_with (go_at_call 33; refine (IN.out _).mono ?_; rintro e w' ⟨rfl, rfl⟩)
  go_region_held3 (fun W => Grow w3 W ∧ W.cell? ⟨T, 0, none⟩ = some (.int .i64 s.pl) ∧ W.cell? ⟨T, 1, none⟩ = some (.slice A s.su.length c) ∧ W.cell? ⟨T, 2, none⟩ = some (.int .i64 s.wi) ∧ W.cell? ⟨T, 3, none⟩ = some (.int .i64 s.dr) ∧ W.cell? ⟨T, 4, none⟩ = some (.int .i64 s.fl) ∧ W.cell? ⟨T, 5, none⟩ = some (.int .i64 s.co) ∧ W.cell? ⟨T, 6, none⟩ = some (.int .i64 s.me) ∧ W.cell? ⟨T, 7, none⟩ = some (.int .i64 s.de) ∧ W.cell? ⟨T, 8, none⟩ = some (.slice B s.re.length d))
    (exact KS3.out _ (by first | assumption | exact (Grow.refl _).drew))
    ((go_at_call 62; have hS := (‹Grow w3 _ ∧ _›).1; refine (B1.out _ _ (G3.out _ hS) (I1.out _ hS)).mono ?_; rintro e w5 ⟨Aa, ca, rfl, ia, hg5⟩; have hk5 := hS.trans hg5))
  all_goals
    have KS5 := hid (fun W (hg : Grow w5 W) => And.intro hg (KS3.out W (hk5.trans hg)).2)
    have HK5 := hid hk5
    clear hk5
    go_wp2
    go_region_held3 (fun W => Grow w5 W ∧ W.cell? ⟨T, 0, none⟩ = some (.int .i64 s.pl) ∧ W.cell? ⟨T, 1, none⟩ = some (.slice A s.su.length c) ∧ W.cell? ⟨T, 2, none⟩ = some (.int .i64 s.wi) ∧ W.cell? ⟨T, 3, none⟩ = some (.int .i64 s.dr) ∧ W.cell? ⟨T, 4, none⟩ = some (.int .i64 s.fl) ∧ W.cell? ⟨T, 5, none⟩ = some (.int .i64 s.co) ∧ W.cell? ⟨T, 6, none⟩ = some (.int .i64 s.me) ∧ W.cell? ⟨T, 7, none⟩ = some (.int .i64 s.de) ∧ W.cell? ⟨T, 8, none⟩ = some (.slice B s.re.length d))
      (exact KS5.out _ (by first | assumption | exact (Grow.refl _).drew))
      ((go_at_call 62; have hS := (‹Grow w5 _ ∧ _›).1; refine (B2.out _ _ (G3.out _ (HK5.out.trans hS)) (I2.out _ (HK5.out.trans hS))).mono ?_; rintro e w6 ⟨Ab, cb, rfl, ib, hg6⟩; have hk6 := hS.trans hg6))
    all_goals
      have KS6 := hid (fun W (hg : Grow w6 W) => And.intro hg (KS5.out W (hk6.trans hg)).2)
      have HK6 := hid hk6
      clear hk6
      clear c0 c1 c2 c3 c4 c5 c6 c7 c8
      obtain ⟨-, c0, c1, c2, c3, c4, c5, c6, c7, c8⟩ := KS6.out _ (Grow.refl _)
      have G6 := hid (fun W (hg : Grow w6 W) => G3.out W (HK5.out.trans (HK6.out.trans hg)))
      have I6 := hid (fun W (hg : Grow w6 W) => IW.out W (HK5.out.trans (HK6.out.trans hg)))
      have IA6 := hid (ia.grow HK6.out)
      have IB6 := hid ib
      clear ia ib hg5 hg6 hS
      go_wp2_with (first
        | (go_at_call 62; refine (B3.out _ _ (G6.out _ (Grow.refl _)) (I6.out _ (Grow.refl _))).mono ?_; rintro e w7 ⟨Ac, cc, rfl, ic, hg7⟩; have IC7 := hid ic; clear ic; clear c0 c1 c2 c3 c4 c5 c6 c7 c8; obtain ⟨-, c0, c1, c2, c3, c4, c5, c6, c7, c8⟩ := KS6.out _ hg7)
        | (go_at_call 64; refine (F1.out _ _ (G6.out _ hg7) (I6.out _ hg7)).mono ?_; rintro e w8 ⟨Af, cf, rfl, f1, f2, f3, hg8⟩; have F3 := hid f3; clear f3; have hk8 := hg7.trans hg8; clear c0 c1 c2 c3 c4 c5 c6 c7 c8; obtain ⟨-, c0, c1, c2, c3, c4, c5, c6, c7, c8⟩ := KS6.out _ hk8)
        | (go_at_call 34; refine (PN.out _ (G6.out _ hk8)).mono ?_; rintro e w9 ⟨rfl, hg9⟩))
      have hk9 := hk8.trans hg9
      have KS9 := hid (fun W (hg : Grow w9 W) => And.intro hg (KS6.out W (hk9.trans hg)).2)
      have IA9 := hid (fun W (hg : Grow w9 W) => IA6.out.grow (hk9.trans hg))
      have IB9 := hid (fun W (hg : Grow w9 W) => IB6.out.grow (hk9.trans hg))
      have IC9 := hid (fun W (hg : Grow w9 W) => IC7.out.grow (hg8.trans (hg9.trans hg)))
      have F9 := hid (fun W (hg : Grow w9 W) => F3.out.grow (hg9.trans hg))
      have HG9 := hid (fun W (hg : Grow w9 W) => HG.out W (G6.out W (hk9.trans hg)))
      clear hg7 hg8 hg9 hk8 hk9 c0 c1 c2 c3 c4 c5 c6 c7 c8
      go_loopw [17] (fun i wr => ∃ j : Nat, j ≤ M ∧ i = .int .i64 (j : Int) ∧ Grow w9 wr) (fun i _ => M - (intOf i).toNat)
      case atStart => exact ⟨0, Nat.zero_le _, rfl, Grow.refl _⟩
      case round =>
        obtain ⟨j, hj, rfl, hgr⟩ := hrel
        obtain ⟨-, c0, c1, c2, c3, c4, c5, c6, c7, c8⟩ := KS9.out _ hgr
        by_cases hlt : j < M
        · have ja := IA9.out _ hgr
          have jb := IB9.out _ hgr
          have jc := IC9.out _ hgr
          obtain ⟨_, _, e1, x1, y1, r1⟩ := ja
          obtain ⟨_, _, e2, x2, y2, r2⟩ := jb
          obtain ⟨_, _, e3, x3, y3, r3⟩ := jc
          injection e1 with e1 _ e1'
          injection e2 with e2 _ e2'
          injection e3 with e3 _ e3'
          subst e1 e1' e2 e2' e3 e3'
          have L1 := LL.out.1
          have L2 := LL.out.2.1
          have L3 := LL.out.2.2
          obtain ⟨ad1, rfl, -, t1⟩ := r1.int (k := j) (by omega)
          obtain ⟨ad2, rfl, -, t2⟩ := r2.int (k := j) (by omega)
          obtain ⟨ad3, rfl, -, t3⟩ := r3.int (k := j) (by omega)
          have hall := ALL.out.1 j (by omega)
          have hadd := ALL.out.2 j (by omega) (by omega) (by omega)
          rw [hall] at t3 hadd
          generalize la[j] = xa at *
          generalize lb[j] = xb at *
          have FW := hid (show IntKind.i64.wrap (xa + xb) = s.co by rw [hadd]; exact IntWalk.i64_in _ (by omega))
          clear hall hadd L1 L2 L3 r1 r2 r3 x1 x2 x3 y1 y2 y3
          have j0 : (0 : Int) ≤ (j : Int) := by omega
          have j1 : (j : Int) < (M : Int) := by omega
          go_wp2
          have FW := FW.out
          go_quiet (fail)
          clear FW
          go_wp2
          exact ⟨⟨j + 1, by omega, by go_num, hgr.drewN _⟩, by simp only [intOf]; omega⟩
        · obtain rfl : j = M := by omega
          clear c0 c1 c2 c3 c4 c5 c6 c7 c8
          have j1 : ¬ (j : Int) < (j : Int) := by omega
          have HGR := hid hgr
          clear hgr
          unfold maxLen at f2
          go_wp2
          go_loopw [18, 19] (fun r i wr => ∃ m : Nat, m ≤ n ∧ i = .int .i64 (m : Int) ∧ r = .int .i64 ((redsN (lfs.take m) : Nat) : Int) ∧ Grow w9 wr) (fun _ i _ => n - (intOf i).toNat)
          case atStart => exact ⟨0, Nat.zero_le _, rfl, rfl, HGR.out⟩
          case round =>
            obtain ⟨m, hm, rfl, rfl, hgr⟩ := hrel
            obtain ⟨-, c0, c1, c2, c3, c4, c5, c6, c7, c8⟩ := KS9.out _ hgr
            have LF := FIN.out.1
            by_cases hlt2 : m < n
            · obtain ⟨ad, rfl, -, -, t2⟩ := (F9.out _ hgr).face (k := m) (by omega)
              have hs := redsN_snoc (lfs.take m) lfs[m]
              rw [← List.take_succ_eq_append_getElem (by omega)] at hs
              have hle := redsN_le (lfs.take m)
              have hll : (lfs.take m).length ≤ m := List.length_take_le _ _
              generalize lfs[m] = fc at *
              generalize hr : redsN (lfs.take m) = r at *
              have HR := hid (And.intro hr hs)
              have m0 : (0 : Int) ≤ (m : Int) := by omega
              have m1 : (m : Int) < (n : Int) := by omega
              have r0 : (0 : Int) ≤ (r : Int) := by omega
              have r1 : (r : Int) ≤ 144 := by omega
              clear hr hs hle hll LF
              cases hb : fc.2
              · rw [hb] at t2 HR
                have NX := hid (show redsN (lfs.take (m + 1)) = r by rw [HR.out.2]; simp)
                clear hb
                go_wp2
                exact ⟨⟨m + 1, by omega, by go_num, by rw [NX.out], hgr⟩, by simp only [intOf]; omega⟩
              · rw [hb] at t2 HR
                have NX := hid (show redsN (lfs.take (m + 1)) = r + 1 by rw [HR.out.2]; simp)
                clear hb
                go_wp2
                exact ⟨⟨m + 1, by omega, by go_num, by rw [NX.out]; go_num, hgr⟩, by simp only [intOf]; omega⟩
            · obtain rfl : m = n := by omega
              clear hlt2 hm
              have e5 : ((redsN (lfs.take m) : Nat) : Int) = (s.re.length : Int) := by
                rw [List.take_of_length_le (by omega), FIN.out.2, HRE.out]
              have hb5 : (((redsN (lfs.take m) : Nat) : Int) == (s.re.length : Int)) = true := by simp [e5]
              clear e5 LF
              generalize redsN (lfs.take m) = r at *
              have m1 : ¬ (m : Int) < (m : Int) := by omega
              go_wp2_with (go_at_call 21; refine (awake_any _).mono ?_; rintro e wN ⟨rfl, hgN⟩)
              go_ret
              exact ⟨rfl, HG9.out _ (hgr.trans hgN)⟩
end Go.Proofs.Ytjiahcfegfimmaa
