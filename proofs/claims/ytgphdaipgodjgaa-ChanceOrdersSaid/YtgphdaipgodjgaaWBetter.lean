/-
  The walk of the law ChanceBetter.
-/
import Derived.Test.YtgphdaipgodjgaaOddsOf
import Derived.Test.YtgphdaipgodjgaaRefC
import Derived.Test.YtgphdaipgodjgaaFrame
namespace Go.Proofs.Ytgphdaipgodjgaa
open Go.RowKit

theorem But.cell {g : Nat} {w w' : World} (h : But g w w') {p : Addr} {v : Value} (hp : w.cell? p = some v) (hne : p.block ≠ g) : w'.cell? p = some v := by
  rw [World.cell?_of_block (w := w) (h.block p.block (World.block_lt_of_cell? w p hp) (fun e => hne (by injection e)))]
  exact hp
/-- Odds, of any two lists, at place i of the row L. -/
def OddsAt (w : World) (L : Nat) (t : Nat) : Prop := ∃ (X : Option Addr) (m : Nat) (x : Nat) (Y : Option Addr) (k : Nat) (y : Nat) (xs ys : List Int), w.cell? ⟨L, t * 2, none⟩ = some (.slice X m x) ∧ w.cell? ⟨L, t * 2 + 1, none⟩ = some (.slice Y k y) ∧ IsInts w (.slice X m x) xs ∧ IsInts w (.slice Y k y) ys
theorem OddsAt.grow {w w' : World} {L t : Nat} (h : OddsAt w L t) (g : Grow w w') : OddsAt w' L t := by
  obtain ⟨X, m, x, Y, k, y, xs, ys, h1, h2, h3, h4⟩ := h
  exact ⟨X, m, x, Y, k, y, xs, ys, g.cell_some h1, g.cell_some h2, h3.grow g, h4.grow g⟩
theorem IsOdds.butG {g : Nat} {w w' : World} {e' : TypeId} {cs : Array Value} {v : Value} {a b : Int} (h : IsOdds w v a b) (k : But g w w') (hx : w.heap[g]? = some (.cells cs e' (0, 0))) (hne : 3 ≠ e') : IsOdds w' v a b := by
  obtain ⟨v1, v2, rfl, h1, h2⟩ := h
  exact ⟨v1, v2, rfl, h1.butG k hx hne, h2.butG k hx hne⟩
theorem IsOdds.src {g : Nat} {w w' : World} {v : Value} {a b : Int} (h : IsOdds w v a b) (k : But g w w') (hs : Src w g) : IsOdds w' v a b := by
  obtain ⟨x, _, _, hx⟩ := hs
  exact h.butG k hx (by decide)
theorem IsOdds.open_ {w : World} {v : Value} {a b : Int} (h : IsOdds w v a b) : ∃ A m c B k d, v = .agg #[.slice A m c, .slice B k d] ∧ IsNatF w (.slice A m c) a ∧ IsNatF w (.slice B k d) b := by
  obtain ⟨v1, v2, rfl, h1, h2⟩ := h
  obtain ⟨A, m, c, rfl⟩ := h1.open_
  obtain ⟨B, k, d, rfl⟩ := h2.open_
  exact ⟨A, m, c, B, k, d, rfl, h1, h2⟩

set_option maxRecDepth 100000 in
set_option maxHeartbeats 4000000 in
theorem walkChanceBetter (x1 x2 : Value) (zs1 zs2 : List Int) (y1 y2 : Value) (zs3 zs4 : List Int) (v5 : Value) (ns : List Int) (n k : Int) (w : World) (h1 : IsInts w x1 zs1) (h2 : IsInts w x2 zs2) (h3 : IsInts w y1 zs3) (h4 : IsInts w y2 zs4) (h5 : IsInts w v5 ns) (_hz : ∀ z ∈ ns, (Lit.int .i64 z).wf = true) (w3 : (Lit.int .i64 n).wf = true) (w4 : (Lit.int .i64 k).wf = true) :
    Calls Try.prog 3 #[.agg #[x1, x2], .agg #[y1, y2], v5, .int .i64 n, .int .i64 k] w (Gives w (.bool true)) := by
  obtain ⟨n0, n1⟩ := wf_range w3
  obtain ⟨k0, k1⟩ := wf_range w4
  clear w3 w4
  have H1 := hid h1
  have H2 := hid h2
  have H3 := hid h3
  have H4 := hid h4
  have H5 := hid h5
  obtain ⟨A1, c1, rfl, _, m1, _⟩ := h1
  obtain ⟨A2, c2, rfl, _, m2, _⟩ := h2
  obtain ⟨A3, c3, rfl, _, m3, _⟩ := h3
  obtain ⟨A4, c4, rfl, _, m4, _⟩ := h4
  clear h5
  have gA : Grow w ((w.alloc (.cells #[.slice A1 zs1.length c1, .slice A2 zs2.length c2] 25)).alloc (.cells #[.slice A3 zs3.length c3, .slice A4 zs4.length c4] 25)) := ((Grow.refl _).alloc _).alloc _
  have GA := hid gA
  clear gA
  have AW : ∀ W, Grow w W → Calls Try.prog 14 #[] W (Gives w (.bool true)) := fun W hg => (awake_any W).mono (fun e w' h => ⟨h.1, hg.trans h.2⟩)
  have AW := hid AW
  clear _hz
  by_cases b1 : 60 < zs1.length
  · go_enter Try.func3, Try.ntmps3
    have d1 : (60 : Int) < (zs1.length : Int) := by omega
    go_wp2_with fail
    refine (AW.out _ GA.out).mono ?_
    rintro e w1 ⟨rfl, g1⟩
    go_wp2
    go_ret
    exact ⟨rfl, g1⟩
  · go_enter Try.func3, Try.ntmps3
    have d1 : ¬ (60 : Int) < (zs1.length : Int) := by omega
    by_cases b2 : 60 < zs2.length
    · have d2 : (60 : Int) < (zs2.length : Int) := by omega
      go_wp2_with fail
      refine (AW.out _ GA.out).mono ?_
      rintro e w1 ⟨rfl, g1⟩
      go_wp2
      go_ret
      exact ⟨rfl, g1⟩
    · have d2 : ¬ (60 : Int) < (zs2.length : Int) := by omega
      by_cases b3 : 60 < zs3.length
      · have d3 : (60 : Int) < (zs3.length : Int) := by omega
        go_wp2_with fail
        refine (AW.out _ GA.out).mono ?_
        rintro e w1 ⟨rfl, g1⟩
        go_wp2
        go_ret
        exact ⟨rfl, g1⟩
      · have d3 : ¬ (60 : Int) < (zs3.length : Int) := by omega
        by_cases b4 : 60 < zs4.length
        · have d4 : (60 : Int) < (zs4.length : Int) := by omega
          go_wp2_with fail
          refine (AW.out _ GA.out).mono ?_
          rintro e w1 ⟨rfl, g1⟩
          go_wp2
          go_ret
          exact ⟨rfl, g1⟩
        · have d4 : ¬ (60 : Int) < (zs4.length : Int) := by omega
          go_wp2_with fail
          refine (NewSource_any _ _ _ (H5.out.grow GA.out)).mono ?_
          rintro e w1 ⟨g, rfl, gg, hs1, hg1⟩
          have bA : Blk w1 w.heap.size 25 [.slice A1 zs1.length c1, .slice A2 zs2.length c2] := Blk.grow (Blk.grow (Blk.new_at (xs := [.slice A1 zs1.length c1, .slice A2 zs2.length c2]) rfl) ((Grow.refl _).alloc _)) hg1
          have bB : Blk w1 (w.heap.size + 1) 25 [.slice A3 zs3.length c3, .slice A4 zs4.length c4] := Blk.grow (Blk.new_at (xs := [.slice A3 zs3.length c3, .slice A4 zs4.length c4]) (by simp)) hg1
          have gW : Grow w w1 := GA.out.trans hg1
          simp only [World.size_alloc] at gg
          have q0 : w1.cell? ⟨w.heap.size, 0, none⟩ = some (.slice A1 zs1.length c1) := bA.cell 0
          have q1 : w1.cell? ⟨w.heap.size, 1, none⟩ = some (.slice A2 zs2.length c2) := bA.cell 1
          have q2 : w1.cell? ⟨w.heap.size + 1, 0, none⟩ = some (.slice A3 zs3.length c3) := bB.cell 0
          have q3 : w1.cell? ⟨w.heap.size + 1, 1, none⟩ = some (.slice A4 zs4.length c4) := bB.cell 1
          clear GA hg1 H5 bA bB
          have l0 : w.heap.size < g := by omega
          have l1 : w.heap.size + 1 < g := by omega
          clear gg
          have KS := hid (fun W (hk : Src W g ∧ But g w1 W) => (⟨hk, hk.2.cell q0 (by simp; omega), hk.2.cell q1 (by simp; omega), hk.2.cell q2 (by simp; omega), hk.2.cell q3 (by simp; omega)⟩ : (Src W g ∧ But g w1 W) ∧ W.cell? ⟨w.heap.size, 0, none⟩ = some (.slice A1 zs1.length c1) ∧ W.cell? ⟨w.heap.size, 1, none⟩ = some (.slice A2 zs2.length c2) ∧ W.cell? ⟨w.heap.size + 1, 0, none⟩ = some (.slice A3 zs3.length c3) ∧ W.cell? ⟨w.heap.size + 1, 1, none⟩ = some (.slice A4 zs4.length c4)))
          have hs1' : Src w1.drew g ∧ But g w1 w1.drew := ⟨hs1, (But.refl g w1).drew⟩
          clear q0 q1 q2 q3
          go_wp2_with fail
          have mark : 0 ≤ 0 := Nat.le_refl _
          go_region_held3 (fun W => (Src W g ∧ But g w1 W) ∧ W.cell? ⟨w.heap.size, 0, none⟩ = some (.slice A1 zs1.length c1) ∧ W.cell? ⟨w.heap.size, 1, none⟩ = some (.slice A2 zs2.length c2) ∧ W.cell? ⟨w.heap.size + 1, 0, none⟩ = some (.slice A3 zs3.length c3) ∧ W.cell? ⟨w.heap.size + 1, 1, none⟩ = some (.slice A4 zs4.length c4))
            (exact KS.out _ (by first | assumption | exact ⟨Src.grow (‹(Src _ g ∧ But g w1 _) ∧ _›).1.1 ((Grow.refl _).alloc _), But.alloc (‹(Src _ g ∧ But g w1 _) ∧ _›).1.2 _⟩))
            (first
              | (clear mark; go_at_call 16; have hS := (‹(Src _ g ∧ But g w1 _) ∧ _›).1; refine (OddsOf_any g _ hS.1).mono ?_; rintro e wA ⟨vA, aA, bA, rfl, kA, _, _, _, _, hsA, hbA⟩; have hkA : Src wA g ∧ But g w1 wA := ⟨hsA, hS.2.trans hbA⟩; obtain ⟨A5, m5, c5, A6, m6, c6, rfl, kA1, kA2⟩ := kA.open_)
              | (go_at_call 16; have hS := (‹(Src _ g ∧ But g w1 _) ∧ _›).1; refine (OddsOf_any g _ hS.1).mono ?_; rintro e wB ⟨vB, aB, bB, rfl, kB, _, _, _, _, hsB, hbB⟩; have hkB : Src wB g ∧ But g w1 wB := ⟨hsB, hS.2.trans hbB⟩; obtain ⟨A7, m7, c7, A8, m8, c8, rfl, kB1, kB2⟩ := kB.open_))
          have kA1' := kA1.butG hbB (Classical.choose_spec hkA.1).2.2 (by decide)
          have kA2' := kA2.butG hbB (Classical.choose_spec hkA.1).2.2 (by decide)
          have gL : Grow wB (wB.alloc (.cells #[.slice A1 zs1.length c1, .slice A2 zs2.length c2, .slice A3 zs3.length c3, .slice A4 zs4.length c4, .slice A5 m5 c5, .slice A6 m6 c6, .slice A7 m7 c7, .slice A8 m8 c8] 25)) := (Grow.refl _).alloc _
          have bL : Blk (wB.alloc (.cells #[.slice A1 zs1.length c1, .slice A2 zs2.length c2, .slice A3 zs3.length c3, .slice A4 zs4.length c4, .slice A5 m5 c5, .slice A6 m6 c6, .slice A7 m7 c7, .slice A8 m8 c8] 25)) wB.heap.size 25 [.slice A1 zs1.length c1, .slice A2 zs2.length c2, .slice A3 zs3.length c3, .slice A4 zs4.length c4, .slice A5 m5 c5, .slice A6 m6 c6, .slice A7 m7 c7, .slice A8 m8 c8] := Blk.new_at rfl
          have gWL : Grow w (wB.alloc (.cells #[.slice A1 zs1.length c1, .slice A2 zs2.length c2, .slice A3 zs3.length c3, .slice A4 zs4.length c4, .slice A5 m5 c5, .slice A6 m6 c6, .slice A7 m7 c7, .slice A8 m8 c8] 25)) := (hkB.2.grow gW (by omega)).trans gL
          have LL : ∀ t, t < 4 → OddsAt (wB.alloc (.cells #[.slice A1 zs1.length c1, .slice A2 zs2.length c2, .slice A3 zs3.length c3, .slice A4 zs4.length c4, .slice A5 m5 c5, .slice A6 m6 c6, .slice A7 m7 c7, .slice A8 m8 c8] 25)) wB.heap.size t := by
            intro t ht
            obtain ⟨ys5, _, _, i5⟩ := kA1'.1
            obtain ⟨ys6, _, _, i6⟩ := kA2'.1
            obtain ⟨ys7, _, _, i7⟩ := kB1.1
            obtain ⟨ys8, _, _, i8⟩ := kB2.1
            rcases (show t = 0 ∨ t = 1 ∨ t = 2 ∨ t = 3 by omega) with rfl | rfl | rfl | rfl
            · exact ⟨_, _, _, _, _, _, _, _, bL.cell 0, bL.cell 1, H1.out.grow gWL, H2.out.grow gWL⟩
            · exact ⟨_, _, _, _, _, _, _, _, bL.cell 2, bL.cell 3, H3.out.grow gWL, H4.out.grow gWL⟩
            · exact ⟨_, _, _, _, _, _, _, _, bL.cell 4, bL.cell 5, i5.grow gL, i6.grow gL⟩
            · exact ⟨_, _, _, _, _, _, _, _, bL.cell 6, bL.cell 7, i7.grow gL, i8.grow gL⟩
          generalize wB.alloc (.cells #[.slice A1 zs1.length c1, .slice A2 zs2.length c2, .slice A3 zs3.length c3, .slice A4 zs4.length c4, .slice A5 m5 c5, .slice A6 m6 c6, .slice A7 m7 c7, .slice A8 m8 c8] 25) = wL at *
          generalize wB.heap.size = L at *
          have HL := hid LL
          clear LL bL gL kA1' kA2' kA1 kA2 kB1 kB2 hkA hkB KS hsA hsB hbA hbB H1 H2 H3 H4 hs1 gW l0 l1 b1 b2 b3 b4 d1 d2 d3 d4
          go_wp2
          go_loopw [13] (fun i wr => ∃ t : Nat, t ≤ 4 ∧ i = .int .i64 (t : Int) ∧ Grow wL wr) (fun i _ => 4 - (intOf i).toNat)
          case atStart => exact ⟨0, by omega, rfl, Grow.refl _⟩
          case round =>
            obtain ⟨t, ht, rfl, hgr⟩ := hrel
            by_cases hlt : t < 4
            · have ilt : (t : Int) < 4 := by omega
              have it0 : (0 : Int) ≤ (t : Int) := by omega
              go_wp2
              go_loopw [14] (fun i wr => ∃ s : Nat, s ≤ 4 ∧ i = .int .i64 (s : Int) ∧ Grow wL wr) (fun i _ => 4 - (intOf i).toNat)
              case atStart => exact ⟨0, by omega, rfl, hgr⟩
              case round =>
                clear hgr
                obtain ⟨s, hs, rfl, hgr⟩ := hrel
                by_cases hls : s < 4
                · have ils : (s : Int) < 4 := by omega
                  have is0 : (0 : Int) ≤ (s : Int) := by omega
                  obtain ⟨X, m, x, Y, k', y, xs, ys, r1, r2, r3, r4⟩ := (HL.out t hlt).grow hgr
                  obtain ⟨X', m', x', Y', k'', y', xs', ys', r5, r6, r7, r8⟩ := (HL.out s hls).grow hgr
                  have BB := hid (fun W (hg : Grow wr W) => Better_any _ _ _ _ xs ys xs' ys' W (r3.grow hg) (r4.grow hg) (r7.grow hg) (r8.grow hg))
                  have RB := hid (fun W (hg : Grow wr W) => rBetter_any _ _ _ _ xs ys xs' ys' W (r3.grow hg) (r4.grow hg) (r7.grow hg) (r8.grow hg))
                  generalize betterI xs ys xs' ys' = z at BB RB
                  have KS := hid (fun W (hg : Grow wr W) => (⟨hg, hg.cell_some r1, hg.cell_some r2, hg.cell_some r5, hg.cell_some r6⟩ : Grow wr W ∧ W.cell? ⟨L, t * 2, none⟩ = some (.slice X m x) ∧ W.cell? ⟨L, t * 2 + 1, none⟩ = some (.slice Y k' y) ∧ W.cell? ⟨L, s * 2, none⟩ = some (.slice X' m' x') ∧ W.cell? ⟨L, s * 2 + 1, none⟩ = some (.slice Y' k'' y')))
                  clear r1 r2 r3 r4 r5 r6 r7 r8
                  go_wp2
                  go_region_held3 (fun W => Grow wr W ∧ W.cell? ⟨L, t * 2, none⟩ = some (.slice X m x) ∧ W.cell? ⟨L, t * 2 + 1, none⟩ = some (.slice Y k' y) ∧ W.cell? ⟨L, s * 2, none⟩ = some (.slice X' m' x') ∧ W.cell? ⟨L, s * 2 + 1, none⟩ = some (.slice Y' k'' y'))
                    (exact KS.out _ (by first | assumption | exact (Grow.refl _).drew | exact Grow.alloc (by assumption) _))
                    (first
                      | (go_at_call 17; have hS := (‹Grow wr _ ∧ _›).1; refine (BB.out _ hS).mono ?_; rintro e wA ⟨rfl, hgA⟩; have hkA := hS.trans hgA)
                      | (go_at_call 18; have hS := (‹Grow wr _ ∧ _›).1; refine (RB.out _ hS).mono ?_; rintro e wB ⟨rfl, hgB⟩; have hkB := hS.trans hgB))
                  all_goals
                    go_wp2
                    first
                      | exact ⟨⟨s + 1, by omega, by go_num, hgr.trans hkB⟩, by simp only [intOf]; omega⟩
                      | exact ⟨⟨s + 1, by omega, by go_num, hgr.trans hkA⟩, by simp only [intOf]; omega⟩
                · go_wp2
                  exact ⟨⟨t + 1, by omega, by go_num, hgr⟩, by simp only [intOf]; omega⟩
            · have I0 := hid (Into_any n 90 wr n0 n1 (by omega) (by omega))
              have e0 := Int.emod_nonneg n (show (90 : Int) ≠ 0 by omega)
              have e1 := Int.emod_lt_of_pos n (show (0 : Int) < 90 by omega)
              generalize n % 90 = m at *
              have gW0 : Grow w wr := gWL.trans hgr
              have I1 := hid (fun W => Into_any k (m + 1) W k0 k1 (by omega) (by omega))
              have e2 := Int.emod_nonneg k (show m + 1 ≠ 0 by omega)
              have e3 := Int.emod_lt_of_pos k (show 0 < m + 1 by omega)
              generalize k % (m + 1) = K at *
              have BN := hid (fun W => binomial_all n k W)
              have RN := hid (fun W => rBinomial_any n k W)
              generalize (if n < 0 ∨ 200 < n then 0 else chooseI n k) = q1 at BN RN
              have BM := hid (fun W => binomial_all m K W)
              have RM := hid (fun W => rBinomial_any m K W)
              generalize (if m < 0 ∨ 200 < m then 0 else chooseI m K) = q2 at BM RM
              have hlt' : ¬ (t : Int) < 4 := by omega
              clear hgr HL gWL hlt n0 n1 k0 k1
              go_wp2_with fail
              refine I0.out.mono ?_
              rintro e w2 ⟨rfl, rfl⟩
              go_wp2_with fail
              refine (BN.out _).mono ?_
              rintro e w2 ⟨u1, rfl, j1, g1⟩
              go_wp2_with fail
              refine (RN.out _).mono ?_
              rintro e w3 ⟨u2, rfl, j2, g2⟩
              go_wp2_with fail
              refine (SameNat_same _ _ _ _ (j1.1.grow g2) j2.1).mono ?_
              rintro e w4 ⟨rfl, c4', rfl⟩
              go_wp2_with fail
              refine (I1.out _).mono ?_
              rintro e w4 ⟨rfl, rfl⟩
              go_wp2_with fail
              refine (BM.out _).mono ?_
              rintro e w4 ⟨u3, rfl, j3, g3⟩
              go_wp2_with fail
              refine (I1.out _).mono ?_
              rintro e w5 ⟨rfl, rfl⟩
              go_wp2_with fail
              refine (RM.out _).mono ?_
              rintro e w5 ⟨u4, rfl, j4, g4⟩
              go_wp2_with fail
              refine (SameNat_same _ _ _ _ (j3.1.grow g4) j4.1).mono ?_
              rintro e w6 ⟨rfl, c6', rfl⟩
              go_wp2_with fail
              refine (awake_any _).mono ?_
              rintro e w6 ⟨rfl, g6⟩
              go_wp2
              go_ret
              exact ⟨rfl, ((((((gW0.trans g1).trans g2).drewN c4').trans g3).trans g4).drewN c6').trans g6⟩
end Go.Proofs.Ytgphdaipgodjgaa
