/-
  The walk of the law ChanceRanks.
-/
import Derived.Test.YtomgilkchlediaaRanks
import Derived.Test.YtomgilkchlediaaRRanks
import Derived.Test.YtomgilkchlediaaSwMade
import Derived.Test.YtomgilkchlediaaSamePl
import Derived.Deep.RegionHeld3
import Derived.Deep.DeepCutAuto
import Derived.Deep.CutRange
namespace Go.Proofs.Ytomgilkchlediaa
open Go.RowKit

/-- What a round of the law is handed. -/
def RankRow (w : World) (L1 L2 L3 t : Nat) : Prop := ∃ (A : Option Addr) (m c : Nat) (zs : List Int) (B : Option Addr) (k d : Nat) (l : List Sw) (D : Int),
  w.cell? ⟨L1, t, none⟩ = some (.slice A m c) ∧ w.cell? ⟨L2, t, none⟩ = some (.slice B k d) ∧ w.cell? ⟨L3, t, none⟩ = some (.int .i64 D) ∧ IsInts w (.slice A m c) zs ∧ IsSw w (.slice B k d) l
theorem RankRow.grow {w w' : World} {L1 L2 L3 t : Nat} (h : RankRow w L1 L2 L3 t) (g : Grow w w') : RankRow w' L1 L2 L3 t := by
  obtain ⟨A, m, c, zs, B, k, d, l, D, h1, h2, h3, h5, h6⟩ := h
  exact ⟨A, m, c, zs, B, k, d, l, D, g.cell_some h1, g.cell_some h2, g.cell_some h3, h5.grow g, h6.grow g⟩
/-- The three results, as they are stored. -/
def RkBox (w : World) (p x : Value) (n : Nat) (f : Nat → Nat → Int) (N : Int) : Prop := ∃ A m c A2 m2 c2, p = .slice A m c ∧ x = .slice A2 m2 c2 ∧ IsTab w (.slice A m c) n f ∧ IsNatF w (.slice A2 m2 c2) N
theorem RkBox.grow {w w' : World} {p x : Value} {n : Nat} {f : Nat → Nat → Int} {N : Int} (h : RkBox w p x n f N) (g : Grow w w') : RkBox w' p x n f N := by
  obtain ⟨A, m, c, A2, m2, c2, h1, h2, h3, h4⟩ := h
  exact ⟨A, m, c, A2, m2, c2, h1, h2, h3.grow g, h4.grow g⟩
theorem rank_n (pts : List Int) (l : List Sw) (d : Int) : (if rankErr pts l d = 0 then pts.length else 0) ≤ 1000000 := by
  split
  · rename_i h
    unfold rankErr at h
    by_cases l0 : pts.length = 0
    · omega
    · rw [if_neg l0] at h
      by_cases l4 : 4 < pts.length
      · rw [if_pos l4] at h; exact absurd h (by decide)
      · omega
  · omega
theorem IsSwF.growF {w w' : World} {v : Value} {l : List Sw} (h : IsSwF w v l) (g : Grow w w') : IsSwF w' v l := by
  obtain ⟨A, c, ss, rfl, h1, h2, h3, h4, h5⟩ := h
  exact ⟨A, c, ss, rfl, h1, h2, h3.grow g, h4.grow g, h5.grow g⟩
theorem IsSw.slice {w : World} {v : Value} {l : List Sw} (h : IsSw w v l) : ∃ A c, v = .slice A l.length c ∧ l.length ≤ c ∧ c ≤ maxLen := by
  obtain ⟨A, c, e, h1, h2, _⟩ := h
  exact ⟨A, c, e, h1, h2⟩
theorem IsSw.pts {w : World} {A : Option Addr} {m c : Nat} {l : List Sw} (h : IsSw w (.slice A m c) l) {k : Nat} (hk : k < l.length) : ∃ ad B d, A = some ad ∧ w.cell? ⟨(ad.add (k * 2)).block, (ad.add (k * 2)).off + 1, none⟩ = some (.slice B l[k].p.length d) := by
  obtain ⟨A', c', e, h1, h2, h3⟩ := h
  obtain ⟨ad, B, n, d, e2, _, _, x1, _, rfl⟩ := h3 k hk
  injection e with e _ _
  subst e
  exact ⟨ad, B, d, e2, x1⟩

set_option maxRecDepth 100000 in
set_option maxHeartbeats 8000000 in
theorem walkChanceRanks (v0 : Value) (ps : List Int) (v1 : Value) (sw : List Sw) (d0 : Int) (v3 : Value) (ns : List Int) (w : World) (h0 : IsInts w v0 ps) (_z0 : ∀ z ∈ ps, (Lit.int .i64 z).wf = true) (h1 : IsSw w v1 sw) (_w2 : (Lit.int .i64 d0).wf = true) (h3 : IsInts w v3 ns) (_z3 : ∀ z ∈ ns, (Lit.int .i64 z).wf = true) :
    Calls Try.prog 3 #[v0, v1, .int .i64 d0, v3] w (Gives w (.bool true)) := by
  clear _z0 _z3 _w2
  have H0 := hid h0
  have H1 := hid h1
  have H3 := hid h3
  obtain ⟨A0, c0, rfl, _, m0, _⟩ := h0
  obtain ⟨A1, c1, rfl, _, m1⟩ := h1.slice
  unfold maxLen at m0 m1
  clear h1 h3
  have AW := hid (fun W (hg : Grow w W) => (awake_any W).mono (fun e w' h => (⟨h.1, hg.trans h.2⟩ : Gives w (.bool true) e w')))
  by_cases b1 : 8 < ps.length
  · have d1 : (8 : Int) < (ps.length : Int) := by omega
    go_enter Try.func3, Try.ntmps3
    go_wp2_with fail
    refine (AW.out _ (Grow.refl _)).mono ?_
    rintro e w1 ⟨rfl, g1⟩
    go_wp2
    go_ret
    exact ⟨rfl, g1⟩
  · have d1 : ¬ (8 : Int) < (ps.length : Int) := by omega
    by_cases b2 : 12 < sw.length
    · have d2 : (12 : Int) < (sw.length : Int) := by omega
      go_enter Try.func3, Try.ntmps3
      go_wp2_with fail
      refine (AW.out _ (Grow.refl _)).mono ?_
      rintro e w1 ⟨rfl, g1⟩
      go_wp2
      go_ret
      exact ⟨rfl, g1⟩
    · have d2 : ¬ (12 : Int) < (sw.length : Int) := by omega
      go_enter Try.func3, Try.ntmps3
      go_wp2
      go_loop [9] (fun i => ∃ k : Nat, k ≤ sw.length ∧ i = .int .i64 (k : Int)) (fun i => sw.length - (intOf i).toNat)
      case atStart => exact ⟨0, Nat.zero_le _, rfl⟩
      case round =>
        obtain ⟨k, hk, rfl⟩ := hrel
        by_cases hlt : k < sw.length
        · obtain ⟨ad, B, d, rfl, hx⟩ := H1.out.pts hlt
          have i0 : (0 : Int) ≤ (k : Int) := by omega
          have i1 : (k : Int) < (sw.length : Int) := by omega
          by_cases b3 : 8 < sw[k].p.length
          · have d3 : (8 : Int) < (sw[k].p.length : Int) := by omega
            go_wp2_with fail
            refine (AW.out _ (Grow.refl _)).mono ?_
            rintro e w1 ⟨rfl, g1⟩
            go_wp2
            go_ret
            exact ⟨rfl, g1⟩
          · have d3 : ¬ (8 : Int) < (sw[k].p.length : Int) := by omega
            go_wp2
            exact ⟨⟨k + 1, by omega, by go_num⟩, by simp only [intOf]; omega⟩
        · go_wp2_with fail
          refine (NewSource_any _ _ _ H3.out).mono ?_
          rintro e wA ⟨g, rfl, gg, hs1, hg1⟩
          go_wp2_with fail
          refine (Range_any g 1 4 _ hs1 (by omega) (by omega) (by omega)).mono ?_
          rintro e wB ⟨S, rfl, s0, s1, hs2, hb2⟩
          obtain ⟨S, rfl⟩ := Int.eq_ofNat_of_zero_le (show 0 ≤ S by omega)
          have hg2 := hb2.grow hg1 gg
          have gl := hs2.lt
          clear hs1 hg1 hb2
          go_wp2_with fail
          go_loopw [12, 13] (fun pv i wr => ∃ (k : Nat) (zs : List Int), k ≤ S ∧ i = .int .i64 (k : Int) ∧ Own wB wr pv zs ∧ zs.length = k ∧ (∀ z ∈ zs, 0 ≤ z ∧ z ≤ 11) ∧ Src wr g ∧ But g wB wr) (fun _ i _ => S - (intOf i).toNat)
          case atStart => exact ⟨0, [], Nat.zero_le _, rfl, Own.nil _ _, rfl, by simp, hs2, But.refl _ _⟩
          case round =>
            obtain ⟨j, zs, hj, rfl, hz, hzl, hzb, hs3, hb3⟩ := hrel
            have HZL := hid hzl
            have HZB := hid hzb
            clear hzl hzb
            obtain ⟨AZ, mZ, cZ, rfl⟩ := hz.slice_
            by_cases hjl : j < S
            · have j0 : (j : Int) < (S : Int) := by omega
              have j1 : (0 : Int) ≤ (j : Int) := by omega
              go_wp2_with fail
              refine (Below_any g 12 _ hs3 (by omega)).mono ?_
              rintro e w4 ⟨x, rfl, x0, x1, _, hs4, hb4⟩
              have x1 := x1 (by omega)
              have hz4 := hz.but hb4 (by omega)
              have hb5 := hb3.trans hb4
              obtain ⟨v', w5, hrun, hz5, gr5⟩ := run_append_intS wB w4 22 22 Try.underlying22 x _ zs hz4 (by have := HZL.out; omega) hb5.size
              have hown : ∀ i, (Value.slice AZ mZ cZ).ownBlock = some i → wB.heap.size ≤ i := fun i hi => (World.ownsRow.lt hz4 i hi).1
              have HNEW := hid (And.intro hz5 (And.intro ((hs4.grow ((Grow.refl _).alloc _)).own gr5 (fun e => by have := hown g e; omega)) ((hb5.alloc _).own gr5 hown)))
              have HZN := hid (show ∀ z ∈ zs ++ [x], 0 ≤ z ∧ z ≤ 11 from fun z hz => by
                rcases List.mem_append.1 hz with h | h
                · exact HZB.out z h
                · rw [List.mem_singleton] at h; omega)
              have HRUN := hid hrun
              clear hz hz4 hz5 gr5 hrun hs4 hb4 hs3 hb3 hb5
              go_wp2_with (at_builtin; refine wpList_append_at rfl (.tmp 57) (.tmp 60) (by rfl) (by rfl) (by rfl) HRUN.out ?_)
              exact ⟨⟨j + 1, zs ++ [x], by omega, by go_num, HNEW.out.1, by rw [List.length_append, HZL.out]; rfl, HZN.out, HNEW.out.2⟩, by simp only [intOf]; omega⟩
            · obtain rfl : j = S := by omega
              have hg3 := hb3.grow hg2 gg
              have HP := hid hz.F
              clear hz hs2 hg2 hb3
              go_wp2_with fail
              refine (SwingsOf_any g j _ hs3 (by omega)).mono ?_
              rintro e wE ⟨vW, l, rfl, iW, hmade, hs5, hb5⟩
              have hg5 := hb5.grow hg3 gg
              have hP5 := hid (HP.out.but hb5 hs3)
              obtain ⟨WA, WC, rfl, _, _⟩ := iW.is.slice
              clear hs3 hg3 hb5
              have HW := hid iW
              clear iW hmade
              go_wp2_with fail
              have ga : Grow wE ((wE.alloc (.cells #[.slice A0 ps.length c0, .slice AZ mZ cZ, .slice AZ mZ cZ, .slice AZ mZ cZ] 22)).alloc (.cells #[.slice A1 sw.length c1, .slice WA l.length WC, .slice A1 sw.length c1, .slice WA l.length WC] 23)) := ((Grow.refl _).alloc _).alloc _
              refine (Below_any g 5 _ (hs5.grow ga) (by omega)).mono ?_
              rintro e w5 ⟨r, rfl, _, _, _, hs6, hb6⟩
              go_wp2
              have gl5 := hs5.lt
              have bL1 : Blk w5 wE.heap.size 22 [.slice A0 ps.length c0, .slice AZ mZ cZ, .slice AZ mZ cZ, .slice AZ mZ cZ] := hb6.blk (Blk.grow (Blk.new_at rfl) ((Grow.refl _).alloc _)) (by omega)
              have bL2 : Blk w5 (wE.heap.size + 1) 23 [.slice A1 sw.length c1, .slice WA l.length WC, .slice A1 sw.length c1, .slice WA l.length WC] := hb6.blk (Blk.new_at (by simp)) (by omega)
              have iP6 := (hP5.out.grow ga).but hb6 (hs5.grow ga)
              have iW6 := (HW.out.growF ga).but hb6 (hs5.grow ga)
              have hg6 := hb6.grow (hg5.trans ga) gg
              have gc : Grow w5 (w5.alloc (.cells #[.int .i64 d0, .int .i64 r, .int .i64 1, .int .i64 d0] 3)) := (Grow.refl _).alloc _
              have bL3 : Blk (w5.alloc (.cells #[.int .i64 d0, .int .i64 r, .int .i64 1, .int .i64 d0] 3)) w5.heap.size 3 [.int .i64 d0, .int .i64 r, .int .i64 1, .int .i64 d0] := Blk.new_at rfl
              have bL1 := bL1.grow gc
              have bL2 := bL2.grow gc
              have iP := (iP6.grow gc).1
              have iWW := iW6.is.grow gc
              have hg8 := hg6.trans gc
              have i0 := H0.out.grow hg8
              have i1 := H1.out.grow hg8
              have DR : ∀ t, t < 4 → RankRow (w5.alloc (.cells #[.int .i64 d0, .int .i64 r, .int .i64 1, .int .i64 d0] 3)) wE.heap.size (wE.heap.size + 1) w5.heap.size t := by
                intro t ht
                rcases (show t = 0 ∨ t = 1 ∨ t = 2 ∨ t = 3 by omega) with rfl | rfl | rfl | rfl
                · exact ⟨_, _, _, ps, _, _, _, sw, d0, bL1.cell 0, bL2.cell 0, bL3.cell 0, i0, i1⟩
                · exact ⟨_, _, _, zs, _, _, _, l, r, bL1.cell 1, bL2.cell 1, bL3.cell 1, iP, iWW⟩
                · exact ⟨_, _, _, zs, _, _, _, sw, 1, bL1.cell 2, bL2.cell 2, bL3.cell 2, iP, i1⟩
                · exact ⟨_, _, _, zs, _, _, _, l, d0, bL1.cell 3, bL2.cell 3, bL3.cell 3, iP, iWW⟩
              have HD := hid DR
              clear DR bL1 bL2 bL3 iP iWW i0 i1 iP6 iW6 ga gc hs6 hb6 hg6 hs5 hg5 HP hP5 HW H0 H1 H3 HZL HZB gl5
              generalize w5.alloc (.cells #[.int .i64 d0, .int .i64 r, .int .i64 1, .int .i64 d0] 3) = wL at *
              generalize wE.heap.size + 1 = L2 at *
              generalize wE.heap.size = L1 at *
              generalize w5.heap.size = L3 at *
              go_loopw [18] (fun i wr => ∃ t : Nat, t ≤ 4 ∧ i = .int .i64 (t : Int) ∧ Grow wL wr) (fun i _ => 4 - (intOf i).toNat)
              case atStart => exact ⟨0, by omega, rfl, Grow.refl _⟩
              case round =>
              obtain ⟨t, ht, rfl, hgr⟩ := hrel
              by_cases hlt : t < 4
              case neg =>
                go_wp2_with fail
                refine (AW.out _ (hg8.trans hgr)).mono ?_
                rintro e w8 ⟨rfl, g8⟩
                go_wp2
                go_ret
                exact ⟨rfl, g8⟩
              case pos =>
              have ilt : (t : Int) < 4 := by omega
              have it0 : (0 : Int) ≤ (t : Int) := by omega
              obtain ⟨A, m, c, zs, B, k, d, l, D, r1, r2, r3, i1, i2⟩ := (HD.out t hlt).grow hgr
              obtain ⟨w5, rfl⟩ : ∃ x : World, x = wr := ⟨_, rfl⟩
              obtain ⟨A', c', e', h1', h2', h3'⟩ := id i1
              obtain ⟨er, N, ff, nn, D1, D2, hN⟩ : ∃ (er : Int) (N : Nat) (ff : Nat → Nat → Int) (nn : Int), (∀ W, Grow w5 W → Calls Try.prog 10 #[.slice A m c, .slice B k d, .int .i64 D] W (RankIs W er N ff nn)) ∧ (∀ W, Grow w5 W → Calls Try.prog 11 #[.slice A m c, .slice B k d, .int .i64 D] W (RankIs W er N ff nn)) ∧ N ≤ 1000000 :=
                ⟨_, _, _, _, fun W hg => (Ranks_any _ _ zs l D W (i1.grow hg) (i2.grow hg)).mono fun e w' h => rank_is h, fun W hg => (rRanks_any _ _ zs l D W (i1.grow hg) (i2.grow hg)).mono fun e w' h => rank_is h, rank_n _ _ _⟩
              have E1 := hid D1
              have E2 := hid D2
              have KS := hid (fun W (hg : Grow w5 W) => (⟨hg, hg.cell_some r1, hg.cell_some r2, hg.cell_some r3⟩ : Grow w5 W ∧ W.cell? ⟨L1, t, none⟩ = some (.slice A m c) ∧ W.cell? ⟨L2, t, none⟩ = some (.slice B k d) ∧ W.cell? ⟨L3, t, none⟩ = some (.int .i64 D)))
              clear D1 D2 r1 r2 r3 i1 i2 h1' h2' h3' e'
              have KS20 := hid (fun W (hg : Grow w5 W) => (⟨hg, (KS.out W ((Grow.refl w5).trans hg)).2⟩ : Grow w5 W ∧ W.cell? ⟨L1, t, none⟩ = some (.slice A m c) ∧ W.cell? ⟨L2, t, none⟩ = some (.slice B k d) ∧ W.cell? ⟨L3, t, none⟩ = some (.int .i64 D)))
              go_upto_region 20 with fail
              go_cut [19, 20, 21] from 80 to 134 (fun p x s wx => RkBox wx p x N ff nn ∧ s = .int .i64 er ∧ Grow w5 wx)
              case first =>
                go_region_held3 (fun W => Grow w5 W ∧ W.cell? ⟨L1, t, none⟩ = some (.slice A m c) ∧ W.cell? ⟨L2, t, none⟩ = some (.slice B k d) ∧ W.cell? ⟨L3, t, none⟩ = some (.int .i64 D))
                  (exact KS20.out _ (by first | assumption | exact (Grow.refl _).drew))
                  ((go_at_call 10; have hS := (‹Grow w5 _ ∧ _›).1; refine (E1.out _ ((Grow.refl w5).trans hS)).mono ?_; rintro e wA ⟨X1, y1, z1, X2, y2, z2, rfl, kA1, kA2, gA⟩; have hkA := hS.trans gA))
                all_goals
                  go_wp2_with fail
                  go_meet
                  exact ⟨⟨_, _, _, _, _, _, rfl, rfl, kA1, kA2⟩, rfl, hkA⟩
              case rest =>
              clear KS20
              obtain ⟨b21, rfl, g21⟩ := hcut
              obtain ⟨wc1, rfl⟩ : ∃ x : World, x = wc := ⟨_, rfl⟩
              have t21 := g21
              have KS21 := hid (fun W (hg : Grow wc1 W) => (⟨hg, (KS.out W (t21.trans hg)).2⟩ : Grow wc1 W ∧ W.cell? ⟨L1, t, none⟩ = some (.slice A m c) ∧ W.cell? ⟨L2, t, none⟩ = some (.slice B k d) ∧ W.cell? ⟨L3, t, none⟩ = some (.int .i64 D)))
              go_upto_region 21 with fail
              go_cut [22, 23, 24] from 80 to 134 (fun p x s wx => RkBox wx p x N ff nn ∧ s = .int .i64 er ∧ Grow wc1 wx)
              case first =>
                go_region_held3 (fun W => Grow wc1 W ∧ W.cell? ⟨L1, t, none⟩ = some (.slice A m c) ∧ W.cell? ⟨L2, t, none⟩ = some (.slice B k d) ∧ W.cell? ⟨L3, t, none⟩ = some (.int .i64 D))
                  (exact KS21.out _ (by first | assumption | exact (Grow.refl _).drew))
                  ((go_at_call 11; have hS := (‹Grow wc1 _ ∧ _›).1; refine (E2.out _ (t21.trans hS)).mono ?_; rintro e wA ⟨X1, y1, z1, X2, y2, z2, rfl, kA1, kA2, gA⟩; have hkA := hS.trans gA))
                all_goals
                  go_wp2_with fail
                  go_meet
                  exact ⟨⟨_, _, _, _, _, _, rfl, rfl, kA1, kA2⟩, rfl, hkA⟩
              case rest =>
              clear KS21
              obtain ⟨b22, rfl, g22⟩ := hcut
              obtain ⟨wc2, rfl⟩ : ∃ x : World, x = wc := ⟨_, rfl⟩
              have t22 := t21.trans g22
              obtain ⟨P1, y1, z1, P2, y2, z2, rfl, rfl, kt1, kn1⟩ := b21.grow g22
              obtain ⟨Q1, y3, z3, Q2, y4, z4, rfl, rfl, kt2, kn2⟩ := b22
              have SN := hid (fun W (hg : Grow wc2 W) => SameNat_same (.slice P2 y2 z2) (.slice Q2 y4 z4) nn W ((kn1.grow hg).1) ((kn2.grow hg).1))
              have SP := hid (fun W (hg : Grow wc2 W) => samePlaces_same (.slice P1 y1 z1) (.slice Q1 y3 z3) N ff W (kt1.grow hg) (kt2.grow hg) hN)
              clear b21 g21 g22 kt1 kt2 kn1 kn2 KS E1 E2 t21
              go_wp2_with fail
              refine (SN.out _ (Grow.refl _)).mono ?_
              rintro e w6 ⟨rfl, n6, rfl⟩
              go_wp2_with fail
              refine (SP.out _ ((Grow.refl _).drewN n6)).mono ?_
              rintro e w7 ⟨rfl, n7, rfl⟩
              go_wp2
              exact ⟨⟨t + 1, by omega, by go_num, hgr.trans (t22.trans ((Grow.refl wc2).drewN _))⟩, by simp only [intOf]; omega⟩
end Go.Proofs.Ytomgilkchlediaa
