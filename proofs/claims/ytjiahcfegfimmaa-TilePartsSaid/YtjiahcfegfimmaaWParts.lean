/-
  The walk of the law TileParts.
-/
import Derived.Test.YtjiahcfegfimmaaHRows
import Derived.Test.YtjiahcfegfimmaaRising
import Derived.Test.YtjiahcfegfimmaaRounds
import Derived.Test.YtjiahcfegfimmaaLong
import Derived.Test.YtjiahcfegfimmaaEq
import Derived.Test.YtjiahcfegfimmaaQuietG
import Derived.Deep.RegionHeld3
import Derived.Deep.Cut
import Derived.Outline
namespace Go.Proofs.Ytjiahcfegfimmaa
open Go.RowKit

/-- A list in ascending order that has each of so many numbers. -/
theorem rising_upto (v : Value) (l : List Int) (n : Nat) (w : World) (h : IsInts w v l) (hp : l.Perm (upto n)) (hn : n ≤ 100000) : Calls Try.prog 31 #[v] w (IntsRes w (upto n)) := by
  refine (Rising_any v l w h (by rw [hp.length_eq, upto_length]; exact hn)).mono ?_
  rintro e w' ⟨v', r, rfl, hi, hs, hpr, hg⟩
  rw [sorted_upto hs (hpr.trans hp)] at hi
  exact ⟨v', rfl, hi, hg⟩
theorem dealt_perm {s : TSet} {l : List Int} {cut d : Int} (V : Valid s) (hl : (l.length : Int) = plainI s * s.co + s.fl) (hP : s.pl.toNat = 3 ∨ s.pl.toNat = 4) :
    ((dealtI s l cut d).1.flatten ++ liveI s l cut d ++ deadI s l cut d).Perm l ∧ (deadI s l cut d).length = s.de.toNat := by
  have hf := V.full
  have hm := V.me
  have hd := V.de
  have hp := V.pl
  have hme : s.pl.toNat * (3 * s.me + 1).toNat ≤ l.length := by
    have : ((s.pl.toNat * (3 * s.me + 1).toNat : Nat) : Int) = s.pl * (3 * s.me + 1) := by
      rw [Int.natCast_mul, Int.toNat_of_nonneg (by omega), Int.toNat_of_nonneg (by omega)]
    omega
  have hlen : (l.drop cut.toNat ++ l.take cut.toNat).length = l.length := (cut_perm l cut.toNat).length_eq
  have h := dealF_perm (d := d.toNat) hP 13 (3 * s.me + 1).toNat (List.replicate s.pl.toNat []) (l.drop cut.toNat ++ l.take cut.toNat) (by simp) (by omega) (by rw [hlen]; exact hme)
  obtain ⟨h1, h2, h3⟩ := h
  have hrep : (List.replicate s.pl.toNat ([] : List Int)).flatten = [] := by simp
  rw [hrep, List.nil_append] at h1
  constructor
  · rw [List.append_assoc]
    unfold liveI deadI
    rw [List.take_append_drop]
    exact h1.trans (cut_perm l cut.toNat)
  · unfold deadI
    rw [List.length_drop]
    have h2' : (dealtI s l cut d).2.length = l.length - s.pl.toNat * (3 * s.me + 1).toNat := by unfold dealtI; rw [h2, hlen]
    have hcast : ((s.pl.toNat * (3 * s.me + 1).toNat : Nat) : Int) = s.pl * (3 * s.me + 1) := by
      rw [Int.natCast_mul, Int.toNat_of_nonneg (by omega), Int.toNat_of_nonneg (by omega)]
    omega
theorem dealt_lens {s : TSet} {l : List Int} {cut d : Int} (V : Valid s) (hl : (l.length : Int) = plainI s * s.co + s.fl) (hP : s.pl.toNat = 3 ∨ s.pl.toNat = 4) (_hd0 : 0 ≤ d) (hd1 : d < s.pl) :
    ∀ j (hj : j < (dealtI s l cut d).1.length), ((dealtI s l cut d).1[j]).length = (3 * s.me + 1).toNat := by
  have hf := V.full
  have hm := V.me
  have hd := V.de
  have hp := V.pl
  have hcast : ((s.pl.toNat * (3 * s.me + 1).toNat : Nat) : Int) = s.pl * (3 * s.me + 1) := by
    rw [Int.natCast_mul, Int.toNat_of_nonneg (by omega), Int.toNat_of_nonneg (by omega)]
  have hlen : (l.drop cut.toNat ++ l.take cut.toNat).length = l.length := (cut_perm l cut.toNat).length_eq
  intro j hj
  have h := dealF_lens (d := d.toNat) hP (by omega) 13 (3 * s.me + 1).toNat 0 (List.replicate s.pl.toNat []) (l.drop cut.toNat ++ l.take cut.toNat) (by simp) (by omega) (by rw [hlen]; omega) (fun j hj => by simp) j hj
  rw [Nat.zero_add] at h
  exact h
theorem flat_take (hs : List (List Int)) {k : Nat} (h : k < hs.length) : (hs.take (k + 1)).flatten = (hs.take k).flatten ++ hs[k] := by
  rw [List.take_succ_eq_append_getElem h, List.flatten_append]; simp
theorem flat_le {hs : List (List Int)} {F : Nat} (h : ∀ j (hj : j < hs.length), hs[j].length = F) (k : Nat) : (hs.take k).flatten.length ≤ k * F := by
  induction k with
  | zero => simp
  | succ k ih =>
    by_cases hk : k < hs.length
    · rw [flat_take hs hk, List.length_append, h k hk, Nat.succ_mul]; omega
    · rw [List.take_of_length_le (by omega)] at ih ⊢
      rw [Nat.succ_mul]; omega

set_option maxRecDepth 100000 in
set_option maxHeartbeats 40000000 in
theorem walkTileParts (v : Value) (zs : List Int) (seed k1 k2 : Int) (w : World) (h : IsInts w v zs) (_hz : ∀ z ∈ zs, (Lit.int .i64 z).wf = true) (_hs : (Lit.int .u64 seed).wf = true) (hk1 : (Lit.int .i64 k1).wf = true) (hk2 : (Lit.int .i64 k2).wf = true) :
    Calls Try.prog 6 #[v, .int .u64 seed, .int .i64 k1, .int .i64 k2] w (Gives w (.bool true)) := by
  have hk1 := wf_range hk1
  have hk2 := wf_range hk2
  go_enter Try.func6, Try.ntmps6
  go_wp2_with fail
  refine (NewSource_any _ zs w h).mono ?_
  rintro e w1 ⟨g, rfl, hgw, hs1, hg1⟩
  go_wp2_with fail
  refine (SetOf_any g _ hs1).mono ?_
  rintro e w2 ⟨v', s, rfl, hi, hc, -, hb2⟩
  obtain ⟨A, c, B, d, rfl, -, -⟩ := hi.is.open_
  have HH := hid (set_head hg1 hgw hb2 hi)
  have V := valid_of hc
  clear hs1 hg1 hgw hb2 hi h _hz
  go_upto_region 2 with (refine wpList_store_row (by rfl) 24 (.tmp 9) (.tmp 20) (by rfl) w2.heap.size #[.int .i64 s.pl, .slice A s.su.length c, .int .i64 s.wi, .int .i64 s.dr, .int .i64 s.fl, .int .i64 s.co, .int .i64 s.me, .int .i64 s.de, .slice B s.re.length d] (by rfl) (by rfl) 24 _ (heap_alloc_new w2 _) (by kernel_rfl) (by rfl) (by simp [Value.oneCell']) ?_)
  have HH : Hid (Blk ((w2.alloc (.cells #[.int .i64 0, .slice none 0 0, .int .i64 0, .int .i64 0, .int .i64 0, .int .i64 0, .int .i64 0, .int .i64 0, .slice none 0 0] 24)).setRow w2.heap.size #[.int .i64 s.pl, .slice A s.su.length c, .int .i64 s.wi, .int .i64 s.dr, .int .i64 s.fl, .int .i64 s.co, .int .i64 s.me, .int .i64 s.de, .slice B s.re.length d]) w2.heap.size 24 (setVals s (.slice A s.su.length c) (.slice B s.re.length d)) ∧ IsSet ((w2.alloc (.cells #[.int .i64 0, .slice none 0 0, .int .i64 0, .int .i64 0, .int .i64 0, .int .i64 0, .int .i64 0, .int .i64 0, .slice none 0 0] 24)).setRow w2.heap.size #[.int .i64 s.pl, .slice A s.su.length c, .int .i64 s.wi, .int .i64 s.dr, .int .i64 s.fl, .int .i64 s.co, .int .i64 s.me, .int .i64 s.de, .slice B s.re.length d]) (.agg #[.int .i64 s.pl, .slice A s.su.length c, .int .i64 s.wi, .int .i64 s.dr, .int .i64 s.fl, .int .i64 s.co, .int .i64 s.me, .int .i64 s.de, .slice B s.re.length d]) s ∧ Grow w ((w2.alloc (.cells #[.int .i64 0, .slice none 0 0, .int .i64 0, .int .i64 0, .int .i64 0, .int .i64 0, .int .i64 0, .int .i64 0, .slice none 0 0] 24)).setRow w2.heap.size #[.int .i64 s.pl, .slice A s.su.length c, .int .i64 s.wi, .int .i64 s.dr, .int .i64 s.fl, .int .i64 s.co, .int .i64 s.me, .int .i64 s.de, .slice B s.re.length d]) ∧ w2.heap.size < ((w2.alloc (.cells #[.int .i64 0, .slice none 0 0, .int .i64 0, .int .i64 0, .int .i64 0, .int .i64 0, .int .i64 0, .int .i64 0, .slice none 0 0] 24)).setRow w2.heap.size #[.int .i64 s.pl, .slice A s.su.length c, .int .i64 s.wi, .int .i64 s.dr, .int .i64 s.fl, .int .i64 s.co, .int .i64 s.me, .int .i64 s.de, .slice B s.re.length d]).heap.size) := HH
  generalize ((w2.alloc (.cells #[.int .i64 0, .slice none 0 0, .int .i64 0, .int .i64 0, .int .i64 0, .int .i64 0, .int .i64 0, .int .i64 0, .slice none 0 0] 24)).setRow w2.heap.size #[.int .i64 s.pl, .slice A s.su.length c, .int .i64 s.wi, .int .i64 s.dr, .int .i64 s.fl, .int .i64 s.co, .int .i64 s.me, .int .i64 s.de, .slice B s.re.length d]) = W0 at *
  generalize w2.heap.size = T at *
  have KS := hid (fun W (hg : Grow W0 W) => And.intro hg (set_cells (HH.out.1.grow hg)))
  have HG := hid (fun W (hg : Grow W0 W) => HH.out.2.2.1.trans hg)
  have SI := hid (fun W (hg : Grow W0 W) => HH.out.2.1.grow hg)
  have hT := HH.out.2.2.2
  have hsz := size_pos V
  have hnz0 := size_ok hc
  have hsb := size_bound s
  have hwl := wall_length s seed
  have hWP := part_wall s seed
  have hPM := wall_perm s seed
  have WL := fun W n (hg : Grow W0 W) (hn : (wallI s seed).length = n) => wall_is (.agg #[.int .i64 s.pl, .slice A s.su.length c, .int .i64 s.wi, .int .i64 s.dr, .int .i64 s.fl, .int .i64 s.co, .int .i64 s.me, .int .i64 s.de, .slice B s.re.length d]) s seed W (SI.out W hg) hn
  have SZ := fun W (hg : Grow W0 W) => Size_any (.agg #[.int .i64 s.pl, .slice A s.su.length c, .int .i64 s.wi, .int .i64 s.dr, .int .i64 s.fl, .int .i64 s.co, .int .i64 s.me, .int .i64 s.de, .slice B s.re.length d]) s W (SI.out W hg)
  generalize wallI s seed = wl at *
  obtain ⟨n, hn⟩ : ∃ n : Nat, wl.length = n := ⟨_, rfl⟩
  have WL := hid (fun W (hg : Grow W0 W) => WL W n hg hn)
  have hnz : (wl.length : Int) = sizeI s := by omega
  have hzn : sizeI s = (n : Int) := by omega
  rw [hzn] at SZ hPM
  rw [Int.toNat_natCast] at hPM
  have n1 : 1 ≤ n := by omega
  have n2 : n ≤ 144 := by omega
  obtain ⟨P, hP⟩ := Int.eq_ofNat_of_zero_le (show 0 ≤ s.pl by have := V.pl; omega)
  obtain ⟨DE, hDE⟩ := Int.eq_ofNat_of_zero_le (show 0 ≤ s.de by have := V.de; omega)
  have P34 : 3 ≤ P ∧ P ≤ 4 := by have := V.pl; omega
  have e1 := Int.emod_nonneg k1 (show (n : Int) ≠ 0 by omega)
  have e2 := Int.emod_lt_of_pos k1 (show 0 < (n : Int) by omega)
  have f1 := Int.emod_nonneg k2 (show (P : Int) ≠ 0 by omega)
  have f2 := Int.emod_lt_of_pos k2 (show 0 < (P : Int) by omega)
  have IN1 := fun W => Into_any k1 (n : Int) W hk1.1 hk1.2 (by omega) (by omega)
  have IN2 := fun W => Into_any k2 (P : Int) W hk2.1 hk2.2 (by omega) (by omega)
  obtain ⟨K, hK⟩ := Int.eq_ofNat_of_zero_le e1
  obtain ⟨D, hD⟩ := Int.eq_ofNat_of_zero_le f1
  rw [hK] at IN1 e2
  rw [hD] at IN2 f2
  rw [← hP] at IN2
  have hKn : K < n := by omega
  have hDP : D < P := by omega
  have DL1 := hid (fun W vv (hg : Grow W0 W) (h2 : IsInts W vv wl) => deal_is (.agg #[.int .i64 s.pl, .slice A s.su.length c, .int .i64 s.wi, .int .i64 s.dr, .int .i64 s.fl, .int .i64 s.co, .int .i64 s.me, .int .i64 s.de, .slice B s.re.length d]) vv s wl K D W (SI.out W hg) h2 hc hWP hnz (by omega) (by omega) (by omega) (by omega) hP)
  have L1 := dealt_len s wl K D
  obtain ⟨PP, dl⟩ := dealt_perm (l := wl) (cut := (K : Int)) (d := (D : Int)) V (by omega) (by omega)
  have LS := dealt_lens (l := wl) (cut := (K : Int)) (d := (D : Int)) V (by omega) (by omega) (by omega) (by omega)
  generalize (dealtI s wl K D).1 = h1 at *
  generalize liveI s wl K D = l1 at *
  generalize deadI s wl K D = d1 at *
  obtain ⟨F, hF⟩ : ∃ F : Nat, 3 * s.me + 1 = (F : Int) := ⟨(3 * s.me + 1).toNat, by have := V.me; omega⟩
  have hF13 : F ≤ 13 := by have := V.me; omega
  rw [hF, Int.toNat_natCast] at LS
  have dl2 : d1.length = DE := by omega
  have PQ := PP.trans hPM
  have hlen := PQ.length_eq
  rw [List.length_append, List.length_append, upto_length] at hlen
  have LL := hid (And.intro (show h1.length = P by omega) (And.intro LS (And.intro dl2 hlen)))
  have PL := hid (And.intro hPM PQ)
  have HP := hid hP
  have HDE := hid hDE
  have HF := hid hF
  have hme := V.me
  have SZ := hid SZ
  have IN1 := hid IN1
  have IN2 := hid IN2
  clear L1 hWP hwl hsz hsb V hc hK hD e1 f1 hnz hn hP hk1 hk2 hnz0 hzn hPM PP PQ dl LS hF dl2 hlen hDE
  obtain ⟨-, c0, c1, c2, c3, c4, c5, c6, c7, c8⟩ := KS.out _ (Grow.refl W0)
  go_upto_region 3 with (go_at_call 30; refine (SZ.out _ (Grow.refl _)).mono ?_; rintro e wz ⟨rfl, hgz⟩)
  clear c0 c1 c2 c3 c4 c5 c6 c7 c8
  obtain ⟨-, c0, c1, c2, c3, c4, c5, c6, c7, c8⟩ := KS.out _ hgz
  go_upto_region 4 with (go_at_call 23; refine (WL.out _ hgz).mono ?_; rintro e w3 ⟨AD, cD, rfl, iw, hg3⟩)
  clear c0 c1 c2 c3 c4 c5 c6 c7 c8
  have hk3 := hgz.trans hg3
  have KS3 := hid (fun W (hg : Grow w3 W) => And.intro hg (KS.out W (hk3.trans hg)).2)
  have G3 := hid (fun W (hg : Grow w3 W) => hk3.trans hg)
  have IW := hid (fun W (hg : Grow w3 W) => iw.grow hg)
  have RI1 := hid (fun W (hg : Grow w3 W) => rising_upto _ wl n W (iw.grow hg) PL.out.1 (by omega))
  have CN := hid (fun W => countL_any n W (by omega))
  have a1 : ¬ (n : Int) < 1 := by omega
  clear hgz hg3 hk3 iw
  go_upto_region 6 with (first
    | (go_at_call 31; refine (RI1.out _ (Grow.refl _)).mono ?_; rintro e wa ⟨va, rfl, ia, hga⟩)
    | (go_at_call 32; refine (CN.out _).mono ?_; rintro e wb ⟨vb, rfl, ob, hgb⟩)
    | (go_at_call 22; refine (Equal_same _ _ _ _ (ia.grow hgb) ob.is).mono ?_; rintro e wc hwc; obtain ⟨rfl, hgc⟩ := gives_says hwc; clear hwc))
  have hk4 := (hga.trans hgb).trans hgc
  clear hga hgb hgc ia ob
  have KS4 := hid (fun W (hg : Grow wc W) => And.intro hg (KS3.out W (hk4.trans hg)).2)
  have G4 := hid (fun W (hg : Grow wc W) => G3.out W (hk4.trans hg))
  have IW4 := hid (fun W (hg : Grow wc W) => IW.out W (hk4.trans hg))
  clear hk4
  obtain ⟨-, c0, c1, c2, c3, c4, c5, c6, c7, c8⟩ := KS4.out _ (Grow.refl _)
  go_region_held3 (fun W => Grow wc W ∧ W.cell? ⟨T, 0, none⟩ = some (.int .i64 s.pl) ∧ W.cell? ⟨T, 1, none⟩ = some (.slice A s.su.length c) ∧ W.cell? ⟨T, 2, none⟩ = some (.int .i64 s.wi) ∧ W.cell? ⟨T, 3, none⟩ = some (.int .i64 s.dr) ∧ W.cell? ⟨T, 4, none⟩ = some (.int .i64 s.fl) ∧ W.cell? ⟨T, 5, none⟩ = some (.int .i64 s.co) ∧ W.cell? ⟨T, 6, none⟩ = some (.int .i64 s.me) ∧ W.cell? ⟨T, 7, none⟩ = some (.int .i64 s.de) ∧ W.cell? ⟨T, 8, none⟩ = some (.slice B s.re.length d))
    (exact KS4.out _ (by first | assumption | exact (Grow.refl _).drew))
    (first
      | (go_at_call 33; first | ((with_reducible refine (IN1.out _).mono ?_); rintro e w' ⟨rfl, rfl⟩) | ((with_reducible refine (IN2.out _).mono ?_); rintro e w' ⟨rfl, rfl⟩))
      | (go_at_call 25; have hS := (‹Grow wc _ ∧ _›).1; refine (DL1.out _ _ (G4.out _ hS) (IW4.out _ hS)).mono ?_; rintro e w6 ⟨Ah, ch, Al, cl, Ad, cd, rfl, ih, il, id1, hg6⟩; have hk6 := hS.trans hg6))
  all_goals
    have KS6 := hid (fun W (hg : Grow w6 W) => And.intro hg (KS4.out W (hk6.trans hg)).2)
    have G6 := hid (fun W (hg : Grow w6 W) => HG.out W (G4.out W (hk6.trans hg)))
    have RH := hid (fun W (hg : Grow w6 W) => ih.grow hg)
    have IL := hid (fun W (hg : Grow w6 W) => il.grow hg)
    have ID := hid (fun W (hg : Grow w6 W) => id1.grow hg)
    have LH := hid (And.intro LL.out (flat_le (F := F) LL.out.2.1))
    have t1 : ((P : Int) != s.pl) = false := by simp [HP.out]
    have t2 : ((d1.length : Int) != s.de) = false := by simp [HDE.out, LL.out.2.2.1]
    clear hS ih il id1 hg6 hk6 c0 c1 c2 c3 c4 c5 c6 c7 c8
    obtain ⟨-, c0, c1, c2, c3, c4, c5, c6, c7, c8⟩ := KS6.out _ (Grow.refl _)
    go_wp2
    go_loopw [16, 17] (fun o i wr => ∃ k : Nat, k ≤ P ∧ i = .int .i64 (k : Int) ∧ Own w6 wr o (h1.take k).flatten ∧ Grow w6 wr) (fun _ i _ => P - (intOf i).toNat)
    case atStart => exact ⟨0, Nat.zero_le _, rfl, by simpa using Own.nil w6 w6, Grow.refl _⟩
    case round =>
      obtain ⟨k, hk, rfl, ho, hgr⟩ := hrel
      obtain ⟨os, hos⟩ : ∃ os, os = (h1.take k).flatten := ⟨_, rfl⟩
      rw [← hos] at ho
      have HOS := hid hos
      obtain ⟨AO, cO, rfl, _⟩ := id ho.is
      have HO := hid ho
      clear ho c0 c1 c2 c3 c4 c5 c6 c7 c8
      obtain ⟨-, c0, c1, c2, c3, c4, c5, c6, c7, c8⟩ := KS6.out _ hgr
      by_cases hlt : k < P
      · clear hos
        have hkl : k < h1.length := by have := LL.out.1; omega
        obtain ⟨ad1, u1, rfl, x1, y1⟩ := (RH.out _ hgr).row hkl
        obtain ⟨A1, cc1, rfl, _⟩ := id y1
        have hF := LL.out.2.1 k hkl
        rw [hF] at x1 y1
        have q0 : (0 : Int) ≤ (k : Int) := by omega
        have q1 : (k : Int) < (P : Int) := by omega
        have hfb : ((F : Int) != 3 * s.me + 1) = false := by simp [HF.out]
        have Y1 := hid y1
        have HFL := hid hF
        clear hF y1
        go_wp2
        go_quiet (fail)
        have hgq := hgr.drewN nq
        have O1 := hid (show Own w6 (wr.drewN nq) (.slice AO os.length cO) os from HO.out)
        have Y2 := hid (Y1.out.drewN nq)
        have x2 : (wr.drewN nq).cell? (ad1.add k) = _ := x1
        have hol : os.length ≤ 52 := by
          have h := LH.out.2 k
          rw [← HOS.out] at h
          have h2 : k * F ≤ 4 * 13 := Nat.mul_le_mul (by omega) (by omega)
          omega
        have hrl : (h1[k]).length ≤ 13 := by have := HFL.out; omega
        have HL := hid (And.intro hol hrl)
        clear x1 hol hrl c0 c1 c2 c3 c4 c5 c6 c7 c8
        generalize wr.drewN nq = wq at *
        go_wp2_with (at_builtin; refine wpList_append_ints w6 _ rfl (.tmp 83) (.tmp 87) _ rfl Try.underlying22 _ _ os _ rfl O1.out rfl Y2.out (by have := HL.out; omega) hgq ?_; intro v5 w5 ho5 hg5 _; have HO5 := hid ho5; have HG5 := hid hg5; clear ho5 hg5)
        exact ⟨⟨k + 1, by omega, by go_num, by rw [flat_take _ hkl, ← HOS.out]; exact HO5.out, HG5.out⟩, by simp only [intOf]; omega⟩
      · obtain rfl : k = P := by omega
        have i1 : ¬ (k : Int) < (k : Int) := by omega
        have hol : os.length + l1.length + d1.length = n := by
          have h := LH.out.1.2.2.2
          rw [List.take_of_length_le (by have := LL.out.1; omega)] at hos
          rw [← hos] at h
          exact h
        have HOL := hid hol
        have hos2 : os = h1.flatten := by rw [hos, List.take_of_length_le (by have := LL.out.1; omega)]
        have PR := PL.out.2
        rw [← hos2] at PR
        have RI2 := hid (fun W vv (h : IsInts W vv (os ++ l1 ++ d1)) => rising_upto vv _ n W h PR (by omega))
        clear hol hos hos2 PR c0 c1 c2 c3 c4 c5 c6 c7 c8
        go_wp2_with (first
          | (at_builtin; refine wpList_append_ints w6 _ rfl (.tmp 89) (.tmp 90) _ rfl Try.underlying22 _ _ os l1 rfl HO.out rfl (IL.out _ hgr) (by have := HOL.out; omega) hgr ?_; intro v5 w5 ho5 hg5 _; have HO5 := hid ho5; clear ho5)
          | (at_builtin; refine wpList_append_ints w6 _ rfl (.tmp 91) (.tmp 92) _ rfl Try.underlying22 _ _ (os ++ l1) d1 rfl HO5.out rfl (ID.out _ hg5) (by have := HOL.out; rw [List.length_append]; omega) hg5 ?_; intro v7 w7 ho7 hg7 _; have HO7 := hid ho7; clear ho7)
          | (go_at_call 31; refine (RI2.out _ _ HO7.out.is).mono ?_; rintro e wa ⟨va, rfl, ia, hga⟩)
          | (go_at_call 32; refine (CN.out _).mono ?_; rintro e wb ⟨vb, rfl, ob, hgb⟩)
          | (go_at_call 22; refine (Equal_same _ _ _ _ (ia.grow hgb) ob.is).mono ?_; rintro e wd hwd; obtain ⟨rfl, hgd⟩ := gives_says hwd; clear hwd)
          | (go_at_call 21; refine (awake_any _).mono ?_; rintro e wN ⟨rfl, hgN⟩))
        go_ret
        exact ⟨rfl, G6.out _ (hg7.trans (hga.trans (hgb.trans (hgd.trans hgN))))⟩
end Go.Proofs.Ytjiahcfegfimmaa
