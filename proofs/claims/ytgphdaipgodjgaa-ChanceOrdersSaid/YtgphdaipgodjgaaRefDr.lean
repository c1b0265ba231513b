/-
  Walks of the reference's Draws and Any.
-/
import Derived.Test.YtgphdaipgodjgaaRefAny
namespace Go.Proofs.Ytgphdaipgodjgaa
open Go.RowKit

theorem outB_true {most : Int} {l : List Int} {k : Nat} (hk : k < l.length) (h : l[k] < 0 ∨ most < l[k]) : l.any (outB most) = true :=
  List.any_eq_true.2 ⟨l[k], List.getElem_mem hk, by unfold outB; simp; omega⟩
theorem within_of {lo hi : Int} {l : List Int} (h : ∀ (j : Nat) (hj : j < l.length), lo ≤ l[j] ∧ l[j] ≤ hi) : Within lo hi l := fun z hz => by
  obtain ⟨j, hj, rfl⟩ := List.getElem_of_mem hz
  exact h j hj

set_option maxRecDepth 100000 in
set_option maxHeartbeats 1000000 in
theorem rDraws_any (v1 v2 : Value) (u x : List Int) (n : Int) (w : World) (h1 : IsInts w v1 u) (h2 : IsInts w v2 x) :
    Calls Try.prog 32 #[v1, v2, .int .i64 n] w (DrawRes w u x n) := by
  have hun := fun W (hg : Grow w W) => (rcheckUnseen_any v1 u W (h1.grow hg)).mono (fun e w' h => (⟨h.1, h.2 ▸ Grow.refl _⟩ : Gives W (.int .i64 (unErr u)) e w'))
  have hfin : ∀ er v wf, drawErr u x n = er → er ≠ 0 → v = .agg #[.slice none 0 0, .slice none 0 0] → Grow w wf → DrawRes w u x n (.returned (.tuple #[v, .int .i64 er])) wf := fun er v wf he hne hv hg => by
    subst hv
    unfold DrawRes
    rw [if_neg (by rw [he]; exact hne), if_neg (by rw [he]; exact hne), he]
    exact ⟨_, rfl, IsOdds.nil, hg⟩
  have g0 : Grow w (w.alloc (.cells #[.slice none 0 0, .slice none 0 0] 25)) := (Grow.refl w).alloc _
  by_cases e1 : unErr u = 0
  · by_cases e2 : x.length = u.length
    · have hE2 := hid (fun (h : x.any (outB 4) = true ∨ n < 0 ∨ sumI u < n) => (show drawErr u x n = 2 from by unfold drawErr; rw [if_neg (by omega), if_neg (by omega), if_pos h]))
      have U := hid (unErr_ok e1)
      have hsum := sum_un e1
      have hdr := hid (fun (N : Nat) W (hg : Grow w W) (hx : Within 0 4 x) (hN : N ≤ 200) => rdraws_any v1 v2 u x N W (h1.grow hg) (h2.grow hg) ⟨U.out.2.2, hx, e2, U.out.2.1⟩ hN)
      have hto := hid (fun W (hg : Grow w W) => rtotal_any v1 u W (h1.grow hg) (fun z hz => by have := U.out.2.2 z hz; omega) (by have := U.out.2.1; omega))
      have hbi := hid (fun W => rBinomial_any (sumI u) n W)
      have hE0 := hid (fun (hx : Within 0 4 x) (h0 : 0 ≤ n) (h1 : n ≤ sumI u) => (show drawErr u x n = 0 from by
        unfold drawErr
        rw [if_neg (by omega), if_neg (by omega), if_neg]
        rw [any_outB hx]
        simp; omega))
      rw [e1] at hun
      obtain ⟨A, c, rfl, hc, hm, hr⟩ := h1
      obtain ⟨B, d, rfl, hd, hm', hs⟩ := h2
      unfold maxLen at hm hm'
      have HF := hid hfin
      have HU := hid hun
      obtain ⟨T, hT⟩ := Int.eq_ofNat_of_zero_le hsum.1
      rw [hT] at hto hbi
      have HT := hid hT
      have hT2 : T ≤ 200 := by omega
      have hne : ((x.length : Int) != (u.length : Int)) = false := by simp [e2]
      have hne' : (x.length != u.length) = false := by simp [e2]
      clear hfin hun e1 e2 hsum hT
      go_enter Try.func32, Try.ntmps32
      go_wp2_with fail
      refine (HU.out _ g0).mono ?_
      rintro e w1 ⟨rfl, hg1⟩
      obtain ⟨b0, q0, q1, f0, f1, bb, bg⟩ := odds_block hg1
      have g1 := g0.trans hg1
      have bk : Blk w1 w.heap.size 25 [.slice none 0 0, .slice none 0 0] := b0
      have BB := hid (And.intro bk (And.intro bb bg))
      clear b0 bb bg bk hg1 g0
      go_wp2
      go_loop [9] (fun i => ∃ k : Nat, k ≤ x.length ∧ i = .int .i64 (k : Int) ∧ ∀ (j : Nat) (hj : j < x.length), j < k → 0 ≤ x[j] ∧ x[j] ≤ 4) (fun i => x.length - (intOf i).toNat)
      case atStart => exact ⟨0, Nat.zero_le _, rfl, fun j _ hj => by omega⟩
      case round =>
        obtain ⟨k, hk, rfl, hz⟩ := hrel
        have HZ := hid hz
        clear hz
        by_cases hlt : k < x.length
        · obtain ⟨ad, rfl, _, hx⟩ := (hs.grow g1).int hlt
          have HO := hid (fun h => hE2.out (.inl (outB_true (most := 4) hlt h)))
          obtain ⟨z, hzz⟩ : ∃ z, z = x[k] := ⟨_, rfl⟩
          rw [← hzz] at hx HO
          have HZZ := hid hzz
          clear hzz
          by_cases z0 : z < 0
          · go_wp2
            refine bodyPost_ret (v := .tuple #[.agg #[.slice none 0 0, .slice none 0 0], .int .i64 2]) (by simp [results, Try.results32, go_sem, q0, q1]) rfl (HF.out 2 _ _ (HO.out (.inl z0)) (by omega) rfl (BB.out.2.2 _ _))
          · by_cases z1 : 4 < z
            · go_wp2
              refine bodyPost_ret (v := .tuple #[.agg #[.slice none 0 0, .slice none 0 0], .int .i64 2]) (by simp [results, Try.results32, go_sem, q0, q1]) rfl (HF.out 2 _ _ (HO.out (.inr z1)) (by omega) rfl (BB.out.2.2 _ _))
            · go_wp2
              refine ⟨⟨k + 1, by omega, by go_num, fun j hj hjk => ?_⟩, by simp only [intOf]; omega⟩
              by_cases e : j = k
              · subst e; rw [← HZZ.out]; omega
              · exact HZ.out j hj (by omega)
        · have HX := hid (within_of (lo := 0) (hi := 4) (l := x) (fun j hj => HZ.out j hj (by omega)))
          by_cases n0 : n < 0
          · go_wp2
            refine bodyPost_ret (v := .tuple #[.agg #[.slice none 0 0, .slice none 0 0], .int .i64 2]) (by simp [results, Try.results32, go_sem, q0, q1]) rfl (HF.out 2 _ _ (hE2.out (.inr (.inl n0))) (by omega) rfl (BB.out.2.2 _ _))
          · by_cases n1 : (T : Int) < n
            · have HE := hid (hE2.out (.inr (.inr (by rw [HT.out]; exact n1))))
              go_wp2_with fail
              refine (hto.out _ g1).mono ?_
              rintro e w2 ⟨rfl, rfl⟩
              go_wp2
              refine bodyPost_ret (v := .tuple #[.agg #[.slice none 0 0, .slice none 0 0], .int .i64 2]) (by simp [results, Try.results32, go_sem, q0, q1]) rfl (HF.out 2 _ _ HE.out (by omega) rfl (BB.out.2.2 _ _))
            · obtain ⟨N, rfl⟩ := Int.eq_ofNat_of_zero_le (show 0 ≤ n by omega)
              have HE := hid (hE0.out HX.out (by omega) (by rw [HT.out]; omega))
              have hbb := hbi.out
              simp only [if_neg (show ¬((T : Int) < 0 ∨ 200 < (T : Int)) by omega)] at hbb
              have HB := hid hbb
              clear hbb
              go_wp2_with fail
              refine (hto.out _ g1).mono ?_
              rintro e w2 ⟨rfl, rfl⟩
              go_wp2_with fail
              refine (hdr.out N _ g1 HX.out (by omega)).mono ?_
              rintro e w3 ⟨vA, rfl, kA, g3⟩
              obtain ⟨A3, m3, c3, rfl⟩ := kA.open_
              have g3' := g1.trans g3
              go_wp2_with fail
              refine (hto.out _ g3').mono ?_
              rintro e w2 ⟨rfl, rfl⟩
              go_wp2_with fail
              refine (HB.out _).mono ?_
              rintro e w4 ⟨vB, rfl, kB, g4⟩
              obtain ⟨A4, m4, c4, rfl⟩ := kB.open_
              have gg := g3.trans g4
              have p0 := gg.cell_some q0
              have p1 := gg.cell_some q1
              have y0 := (gg.frozen (p := ⟨w.heap.size, 0, none⟩) BB.out.1.lt).trans f0
              have y1 := (gg.frozen (p := ⟨w.heap.size, 1, none⟩) BB.out.1.lt).trans f1
              have kA' := hid (kA.grow g4)
              have kB' := hid kB
              have g4' := g1.trans gg
              clear q0 q1 f0 f1 g3' g3 kA kB g4
              go_wp2
              refine bodyPost_ret (v := .tuple #[.agg #[.slice A3 m3 c3, .slice A4 m4 c4], .int .i64 0]) (by simp [results, Try.results32, go_sem, p0, p1]) rfl ?_
              exact draw_fin HE.out HT.out kA'.out kB'.out (BB.out.1.grow gg) g4'
    · have HE := hid (show drawErr u x n = 3 from by unfold drawErr; rw [if_neg (by omega), if_pos e2])
      rw [e1] at hun
      obtain ⟨A, c, rfl, _⟩ := h1
      obtain ⟨B, d, rfl, _⟩ := h2
      have HF := hid hfin
      have HU := hid hun
      have hne : ((x.length : Int) != (u.length : Int)) = true := by simp; omega
      have hne' : (x.length != u.length) = true := by simp; omega
      have hni : ¬ x.length = u.length := e2
      clear hfin hun e1 e2
      go_enter Try.func32, Try.ntmps32
      go_wp2_with fail
      refine (HU.out _ g0).mono ?_
      rintro e w1 ⟨rfl, hg1⟩
      obtain ⟨b0, q0, q1, f0, f1, bb, bg⟩ := odds_block hg1
      go_wp2
      refine bodyPost_ret (v := .tuple #[.agg #[.slice none 0 0, .slice none 0 0], .int .i64 3]) (by simp [results, Try.results32, go_sem, q0, q1]) rfl (HF.out 3 _ _ HE.out (by omega) rfl (bg _ _))
  · have HE := hid (show drawErr u x n = unErr u from by unfold drawErr; rw [if_pos e1])
    have hne : (unErr u != 0) = true := by simp [e1]
    generalize unErr u = n2 at *
    obtain ⟨A, c, rfl, _⟩ := h1
    obtain ⟨B, d, rfl, _⟩ := h2
    have HF := hid hfin
    have HU := hid hun
    have HN := hid e1
    clear hfin hun e1
    go_enter Try.func32, Try.ntmps32
    go_wp2_with fail
    refine (HU.out _ g0).mono ?_
    rintro e w1 ⟨rfl, hg1⟩
    obtain ⟨b0, q0, q1, f0, f1, bb, bg⟩ := odds_block hg1
    go_wp2
    refine bodyPost_ret (v := .tuple #[.agg #[.slice none 0 0, .slice none 0 0], .int .i64 n2]) (by simp [results, Try.results32, go_sem, q0, q1]) rfl (HF.out n2 _ _ HE.out HN.out rfl (bg _ _))

theorem rAny_any (v1 v2 : Value) (u ks : List Int) (n : Int) (w : World) (h1 : IsInts w v1 u) (h2 : IsInts w v2 ks) :
    Calls Try.prog 34 #[v1, v2, .int .i64 n] w (AnyRes w u ks n) := by
  have hun := fun W (hg : Grow w W) => (rcheckUnseen_any v1 u W (h1.grow hg)).mono (fun e w' h => (⟨h.1, h.2 ▸ Grow.refl _⟩ : Gives W (.int .i64 (unErr u)) e w'))
  have hri := fun W (hg : Grow w W) => rcheckKinds_any v2 ks u.length W (h2.grow hg)
  have hfin : ∀ er v wf, anyErr u ks n = er → er ≠ 0 → v = .agg #[.slice none 0 0, .slice none 0 0] → Grow w wf → AnyRes w u ks n (.returned (.tuple #[v, .int .i64 er])) wf := fun er v wf he hne hv hg => by
    subst hv
    unfold AnyRes
    rw [if_neg (by rw [he]; exact hne), if_neg (by rw [he]; exact hne), he]
    exact ⟨_, rfl, IsOdds.nil, hg⟩
  have g0 : Grow w (w.alloc (.cells #[.slice none 0 0, .slice none 0 0] 25)) := (Grow.refl w).alloc _
  obtain ⟨A, c, rfl, hcA⟩ := id h1
  obtain ⟨B, d, rfl, _⟩ := id h2
  have HF := hid hfin
  have HU := hid hun
  have HR := hid hri
  clear hfin hun hri
  by_cases e1 : unErr u = 0
  · rw [e1] at HU
    by_cases e2 : risErr u.length (-1) ks = 0
    · rw [e2] at HR
      have hall := fun W (hg : Grow w W) => rtotal_any _ u W (h1.grow hg) (fun z hz => by have := (unErr_ok e1).2.2 z hz; omega) (by have := (unErr_ok e1).2.1; omega)
      have hsum := sum_un e1
      by_cases e3 : n < 0
      · have HE := hid (show anyErr u ks n = 2 from by unfold anyErr; rw [if_pos e1, if_pos e2, if_pos (.inl e3)])
        clear e1 e2 hall h1 h2
        go_enter Try.func34, Try.ntmps34
        go_wp2_with fail
        refine (HU.out _ g0).mono ?_
        rintro e w1 ⟨rfl, hg1⟩
        go_wp2_with fail
        refine (HR.out _ (g0.trans hg1)).mono ?_
        rintro e w2 ⟨rfl, m2, rfl⟩
        obtain ⟨b0, q0, q1, f0, f1, bb, bg⟩ := odds_block (hg1.drewN m2)
        go_wp2
        refine bodyPost_ret (v := .tuple #[.agg #[.slice none 0 0, .slice none 0 0], .int .i64 2]) (by simp [results, Try.results34, go_sem, q0, q1]) rfl (HF.out 2 _ _ HE.out (by omega) rfl (bg _ _))
      · have HA := hid hall
        generalize hN : sumI u = N at *
        by_cases e4 : N < n
        · have HE := hid (show anyErr u ks n = 2 from by unfold anyErr; rw [if_pos e1, if_pos e2, hN, if_pos (.inr e4)])
          clear e1 e2 hall h1 h2 hN
          go_enter Try.func34, Try.ntmps34
          go_wp2_with fail
          refine (HU.out _ g0).mono ?_
          rintro e w1 ⟨rfl, hg1⟩
          go_wp2_with fail
          refine (HR.out _ (g0.trans hg1)).mono ?_
          rintro e w2 ⟨rfl, m2, rfl⟩
          have hg2 := hg1.drewN m2
          obtain ⟨b0, q0, q1, f0, f1, bb, bg⟩ := odds_block hg2
          generalize w1.drewN m2 = w2 at *
          go_wp2_with fail
          refine (HA.out _ (g0.trans hg2)).mono ?_
          rintro e w3 ⟨rfl, rfl⟩
          go_wp2
          refine bodyPost_ret (v := .tuple #[.agg #[.slice none 0 0, .slice none 0 0], .int .i64 2]) (by simp [results, Try.results34, go_sem, q0, q1]) rfl (HF.out 2 _ _ HE.out (by omega) rfl (bg _ _))
        · have he : anyErr u ks n = 0 := by unfold anyErr; rw [if_pos e1, if_pos e2, hN, if_neg (by omega)]
          obtain ⟨M, rfl⟩ := Int.eq_ofNat_of_zero_le (show 0 ≤ n by omega)
          have hsome := fun W (hg : Grow w W) => anyOf_any _ _ u ks M W (h1.grow hg) (h2.grow hg) (unErr_ok e1).2.2 (unErr_ok e1).2.1 e2 (by rw [hN]; omega)
          rw [hN] at hsome
          have HS := hid hsome
          have HE := hid he
          have HNN := hid hN
          clear e1 e2 hall h1 h2 hN hsome he
          go_enter Try.func34, Try.ntmps34
          go_wp2_with fail
          refine (HU.out _ g0).mono ?_
          rintro e w1 ⟨rfl, hg1⟩
          go_wp2_with fail
          refine (HR.out _ (g0.trans hg1)).mono ?_
          rintro e w2 ⟨rfl, m2, rfl⟩
          have hg2 := hg1.drewN m2
          generalize w1.drewN m2 = w2 at *
          go_wp2_with fail
          refine (HA.out _ (g0.trans hg2)).mono ?_
          rintro e w3 ⟨rfl, rfl⟩
          go_wp2_with fail
          refine (HS.out _ (g0.trans hg2)).mono ?_
          rintro e w3 ⟨v, rfl, ⟨x1, x2, rfl, k1, k2⟩, hg3⟩
          obtain ⟨A1, m1, c1, rfl⟩ := k1.open_
          obtain ⟨A2, m2, c2, rfl⟩ := k2.open_
          obtain ⟨b0, q0, q1, f0, f1, bb, bg⟩ := odds_block (hg2.trans hg3)
          go_wp2
          refine bodyPost_ret (v := .tuple #[.agg #[.slice A1 m1 c1, .slice A2 m2 c2], .int .i64 0]) (by simp [results, Try.results34, go_sem, q0, q1]) rfl ?_
          unfold AnyRes
          rw [HE.out, if_pos rfl, if_pos rfl, HNN.out]
          exact ⟨_, rfl, ⟨_, _, rfl, k1.butG (bb _ _) b0 (by decide), k2.butG (bb _ _) b0 (by decide)⟩, bg _ _⟩
    · have HE := hid (show anyErr u ks n = risErr u.length (-1) ks from by unfold anyErr; rw [if_pos e1, if_neg e2])
      have hne : (risErr u.length (-1) ks != 0) = true := by simp [e2]
      generalize risErr u.length (-1) ks = n2 at *
      have HN := hid e2
      clear e1 e2 h1 h2
      go_enter Try.func34, Try.ntmps34
      go_wp2_with fail
      refine (HU.out _ g0).mono ?_
      rintro e w1 ⟨rfl, hg1⟩
      go_wp2_with fail
      refine (HR.out _ (g0.trans hg1)).mono ?_
      rintro e w2 ⟨rfl, m2, rfl⟩
      obtain ⟨b0, q0, q1, f0, f1, bb, bg⟩ := odds_block (hg1.drewN m2)
      go_wp2
      refine bodyPost_ret (v := .tuple #[.agg #[.slice none 0 0, .slice none 0 0], .int .i64 n2]) (by simp [results, Try.results34, go_sem, q0, q1]) rfl (HF.out n2 _ _ HE.out HN.out rfl (bg _ _))
  · have HE := hid (show anyErr u ks n = unErr u from by unfold anyErr; rw [if_neg e1])
    have hne : (unErr u != 0) = true := by simp [e1]
    generalize unErr u = n2 at *
    have HN := hid e1
    clear e1 h1 h2
    go_enter Try.func34, Try.ntmps34
    go_wp2_with fail
    refine (HU.out _ g0).mono ?_
    rintro e w1 ⟨rfl, hg1⟩
    obtain ⟨b0, q0, q1, f0, f1, bb, bg⟩ := odds_block hg1
    go_wp2
    refine bodyPost_ret (v := .tuple #[.agg #[.slice none 0 0, .slice none 0 0], .int .i64 n2]) (by simp [results, Try.results34, go_sem, q0, q1]) rfl (HF.out n2 _ _ HE.out HN.out rfl (bg _ _))
end Go.Proofs.Ytgphdaipgodjgaa
