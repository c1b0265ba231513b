/-
  The walk of the law ChanceRaces.
-/
import Derived.Test.YtgphdaipgodjgaaWaits
import Derived.Test.YtgphdaipgodjgaaRacingE
import Derived.Test.YtgphdaipgodjgaaRRacingE
import Derived.Deep.DeepCutAuto
import Derived.Deep.CutRange
namespace Go.Proofs.Ytgphdaipgodjgaa
open Go.RowKit

/-- What a round of the law is handed. -/
def RaceRow (w : World) (L1 L2 L3 L4 t : Nat) : Prop := ∃ (A : Option Addr) (m c : Nat) (zs : List Int) (B : Option Addr) (k d : Nat) (ls : List (List Int)) (F D : Int),
  w.cell? ⟨L1, t, none⟩ = some (.slice A m c) ∧ w.cell? ⟨L2, t, none⟩ = some (.slice B k d) ∧ w.cell? ⟨L3, t, none⟩ = some (.int .i64 F) ∧ w.cell? ⟨L4, t, none⟩ = some (.int .i64 D) ∧ IsInts w (.slice A m c) zs ∧ IsRowsI w (.slice B k d) ls
theorem RaceRow.grow {w w' : World} {L1 L2 L3 L4 t : Nat} (h : RaceRow w L1 L2 L3 L4 t) (g : Grow w w') : RaceRow w' L1 L2 L3 L4 t := by
  obtain ⟨A, m, c, zs, B, k, d, ls, F, D, h1, h2, h3, h4, h5, h6⟩ := h
  exact ⟨A, m, c, zs, B, k, d, ls, F, D, g.cell_some h1, g.cell_some h2, g.cell_some h3, g.cell_some h4, h5.grow g, h6.grow g⟩
/-- A pointer to a race. -/
def RBox (w : World) (p : Value) (n : Nat) (f : Nat → Int) (nn aa : Int) : Prop :=
  ∃ (P : Nat) (v1 v2 v3 : Value), p = .pointer (some ⟨P, 0, none⟩) ∧ Blk w P 60 [v1, v2, v3] ∧ IsRace w (.agg #[v1, v2, v3]) n f nn aa
theorem RBox.grow {w w' : World} {p : Value} {n : Nat} {f : Nat → Int} {nn aa : Int} (h : RBox w p n f nn aa) (g : Grow w w') : RBox w' p n f nn aa := by
  obtain ⟨P, v1, v2, v3, h1, h2, h3⟩ := h
  exact ⟨P, v1, v2, v3, h1, h2.grow g, h3.grow g⟩
theorem rbox_new {w : World} {v1 v2 v3 : Value} {n : Nat} {f : Nat → Int} {nn aa : Int} (h : IsRace w (.agg #[v1, v2, v3]) n f nn aa) : RBox (w.alloc (.cells #[v1, v2, v3] 60)) (.pointer (some ⟨w.heap.size, 0, none⟩)) n f nn aa :=
  ⟨_, v1, v2, v3, rfl, Blk.new_at rfl, h.grow ((Grow.refl _).alloc _)⟩
theorem IsRace.butG {g : Nat} {w w' : World} {cs : Array Value} {v : Value} {n : Nat} {f : Nat → Int} {nn aa : Int} (h : IsRace w v n f nn aa) (k : But g w w') (hx : w.heap[g]? = some (.cells cs 60 (0, 0))) : IsRace w' v n f nn aa := by
  obtain ⟨A, c, vs, v2, v3, h1, h2, h3, h4, h5, h6, h7, h8, h9⟩ := h
  exact ⟨A, c, vs, v2, v3, h1, h2, h3, h4, k.rdG hx h5 h6 (by decide), k.tagG hx h6 (by decide), fun i v hv => (h7 i v hv).butG k hx (by decide), h8.butG k hx (by decide), h9.butG k hx (by decide)⟩
theorem rbox_set {w : World} {g : Nat} {v1 v2 v3 : Value} {n : Nat} {f : Nat → Int} {nn aa : Int} (hb : Blk w g 60 [.slice none 0 0, .slice none 0 0, .slice none 0 0]) (h : IsRace w (.agg #[v1, v2, v3]) n f nn aa) :
    RBox (((w.setCell ⟨g, 0, none⟩ v1).setCell ⟨g, 1, none⟩ v2).setCell ⟨g, 2, none⟩ v3) (.pointer (some ⟨g, 0, none⟩)) n f nn aa :=
  ⟨_, v1, v2, v3, rfl, ((hb.set 0 _).set 1 _).set 2 _, h.butG ((((But.refl _ _).set 0 _).set 1 _).set 2 _) hb⟩

set_option maxRecDepth 100000 in
set_option maxHeartbeats 8000000 in
theorem walkChanceRaces (v0 : Value) (us : List Int) (v1 : Value) (ws : List (List Int)) (f0 d0 : Int) (v4 : Value) (ns : List Int) (w : World) (h0 : IsInts w v0 us) (_z0 : ∀ z ∈ us, (Lit.int .i64 z).wf = true) (h1 : IsRowsI w v1 ws) (_w2 : (Lit.int .i64 f0).wf = true) (_w3 : (Lit.int .i64 d0).wf = true) (h4 : IsInts w v4 ns) (_z4 : ∀ z ∈ ns, (Lit.int .i64 z).wf = true) :
    Calls Try.prog 9 #[v0, v1, .int .i64 f0, .int .i64 d0, v4] w (Gives w (.bool true)) := by
  clear _z0 _z4 _w2 _w3
  have H0 := hid h0
  have H1 := hid h1
  have H4 := hid h4
  obtain ⟨A0, c0, rfl, _, m0, _⟩ := h0
  obtain ⟨A1, c1, rfl, _, m1⟩ := h1.open_
  unfold maxLen at m0 m1
  clear h1 h4
  have AW := hid (fun W (hg : Grow w W) => (awake_any W).mono (fun e w' h => (⟨h.1, hg.trans h.2⟩ : Gives w (.bool true) e w')))
  by_cases b1 : 50 < us.length
  · have d1 : (50 : Int) < (us.length : Int) := by omega
    go_enter Try.func9, Try.ntmps9
    go_wp2_with fail
    refine (AW.out _ (Grow.refl _)).mono ?_
    rintro e w1 ⟨rfl, g1⟩
    go_wp2
    go_ret
    exact ⟨rfl, g1⟩
  · have d1 : ¬ (50 : Int) < (us.length : Int) := by omega
    by_cases b2 : 10 < ws.length
    · have d2 : (10 : Int) < (ws.length : Int) := by omega
      go_enter Try.func9, Try.ntmps9
      go_wp2_with fail
      refine (AW.out _ (Grow.refl _)).mono ?_
      rintro e w1 ⟨rfl, g1⟩
      go_wp2
      go_ret
      exact ⟨rfl, g1⟩
    · have d2 : ¬ (10 : Int) < (ws.length : Int) := by omega
      go_enter Try.func9, Try.ntmps9
      go_wp2
      go_loop [11] (fun i => ∃ k : Nat, k ≤ ws.length ∧ i = .int .i64 (k : Int)) (fun i => ws.length - (intOf i).toNat)
      case atStart => exact ⟨0, Nat.zero_le _, rfl⟩
      case round =>
        obtain ⟨k, hk, rfl⟩ := hrel
        by_cases hlt : k < ws.length
        · obtain ⟨ad, B, n, d, rfl, _, hx, _, rfl⟩ := H1.out.at_ hlt
          have i0 : (0 : Int) ≤ (k : Int) := by omega
          have i1 : (k : Int) < (ws.length : Int) := by omega
          by_cases b3 : 50 < ws[k].length
          · have d3 : (50 : Int) < (ws[k].length : Int) := by omega
            go_wp2_with fail
            refine (AW.out _ (Grow.refl _)).mono ?_
            rintro e w1 ⟨rfl, g1⟩
            go_wp2
            go_ret
            exact ⟨rfl, g1⟩
          · have d3 : ¬ (50 : Int) < (ws[k].length : Int) := by omega
            go_wp2
            exact ⟨⟨k + 1, by omega, by go_num⟩, by simp only [intOf]; omega⟩
        · go_wp2_with fail
          refine (NewSource_any _ _ _ H4.out).mono ?_
          rintro e wA ⟨g, rfl, gg, hs1, hg1⟩
          go_wp2_with fail
          refine (Range_any g 1 12 _ hs1 (by omega) (by omega) (by omega)).mono ?_
          rintro e wB ⟨K, rfl, k0, k1, hs2, hb2⟩
          obtain ⟨K, rfl⟩ := Int.eq_ofNat_of_zero_le (show 0 ≤ K by omega)
          have hg2 := hb2.grow hg1 gg
          clear hs1 hg1 hb2
          go_wp2_with fail
          refine (UnseenOf_any g K 40 _ hs2 (by omega) (by omega) (by omega)).mono ?_
          rintro e wC ⟨G, zs, rfl, bG, hG, hlK, hzw, hsum, hs3, hb3⟩
          have hg3 := hb3.grow hg2 gg
          have hGg : G ≠ g := by have := hs2.lt; omega
          have hzl : zs.length ≤ 12 := by omega
          have HZ := hid hzw
          clear hs2 hg2 hb3 hG hlK hsum hzw k0 k1
          go_wp2_with fail
          go_loop [14, 15] (fun m i => ∃ k : Nat, k ≤ zs.length ∧ i = .int .i64 (k : Int) ∧ m = .int .i64 (sumI (zs.take k))) (fun _ i => zs.length - (intOf i).toNat)
          case atStart => exact ⟨0, Nat.zero_le _, rfl, rfl⟩
          case round =>
            obtain ⟨k, hk, rfl, rfl⟩ := hrel
            have hb := (HZ.out.take k).sum
            have hlk : (zs.take k).length = k := by rw [List.length_take]; omega
            rw [hlk] at hb
            have hb1 : 0 ≤ sumI (zs.take k) ∧ sumI (zs.take k) ≤ 100 := by omega
            clear hb hlk
            by_cases hlt : k < zs.length
            · have i0 : (0 : Int) ≤ (k : Int) := by omega
              have i1 : (k : Int) < (zs.length : Int) := by omega
              have q0 := bG.cell_int hlt
              have bx := HZ.out.at_ hlt
              have HS := hid (sumI_take zs hlt)
              go_wp2
              exact ⟨⟨k + 1, by omega, by go_num, by rw [HS.out]⟩, by simp only [intOf]; omega⟩
            · generalize sumI (zs.take k) = M at *
              go_wp2_with fail
              refine (Range_any g 1 4 _ hs3 (by omega) (by omega) (by omega)).mono ?_
              rintro e wD ⟨S, rfl, s0, s1, hs4, hb4⟩
              obtain ⟨S, rfl⟩ := Int.eq_ofNat_of_zero_le (show 0 ≤ S by omega)
              have bG4 := hb4.blk bG hGg
              have hg4 := hb4.grow hg3 gg
              clear bG hs3 hg3 hb4
              go_wp2_with fail
              refine (WaitsOf_anyF g S zs.length _ hs4 (by omega) (by omega)).mono ?_
              rintro e wE ⟨vW, ls, rfl, iW, hwl, hris, hs5, hb5⟩
              obtain rfl : S = ls.length := by omega
              have bG5 := hb5.blk bG4 hGg
              have hg5 := hb5.grow hg4 gg
              obtain ⟨WA, WC, rfl, _, _⟩ := iW.is.open_
              clear bG4 hs4 hg4 hb5 hwl hris
              have HW := hid iW
              have HBG := hid bG5
              clear iW bG5
              go_wp2_with fail
              have ga : Grow wE ((wE.alloc (.cells #[.slice A0 us.length c0, .slice (some ⟨G, 0, none⟩) zs.length zs.length, .slice (some ⟨G, 0, none⟩) zs.length zs.length] 22)).alloc (.cells #[.slice A1 ws.length c1, .slice WA ls.length WC, .slice A1 ws.length c1] 45)) := ((Grow.refl _).alloc _).alloc _
              refine (Below_any g _ _ (hs5.grow ga) (by omega)).mono ?_
              rintro e w5 ⟨r, rfl, _, _, _, hs6, hb6⟩
              have bL1 : Blk w5 wE.heap.size 22 [.slice A0 us.length c0, .slice (some ⟨G, 0, none⟩) zs.length zs.length, .slice (some ⟨G, 0, none⟩) zs.length zs.length] := hb6.blk (Blk.grow (Blk.new_at rfl) ((Grow.refl _).alloc _)) (by have := hs5.lt; omega)
              have bL2 : Blk w5 (wE.heap.size + 1) 45 [.slice A1 ws.length c1, .slice WA ls.length WC, .slice A1 ws.length c1] := hb6.blk (Blk.new_at (by simp)) (by have := hs5.lt; omega)
              have bG6 := hb6.blk (HBG.out.grow ga) hGg
              have iW6 := (HW.out.grow ga).but hb6 (hs5.grow ga)
              have hg6 := hb6.grow (hg5.trans ga) gg
              have sz5 := hb6.size
              have gl := hs5.lt
              simp only [World.size_alloc] at sz5
              clear hs5 hb6 ga hg5
              go_wp2_with fail
              have gb : Grow w5 (w5.alloc (.cells #[.int .i64 f0, .int .i64 r, .int .i64 f0] 3)) := (Grow.refl _).alloc _
              refine (Below_any g _ _ (hs6.grow gb) (by omega)).mono ?_
              rintro e w6 ⟨r2, rfl, _, _, _, hs7, hb7⟩
              go_wp2
              have lt1 := bL1.lt
              have lt2 := bL2.lt
              have bL1 := hb7.blk (bL1.grow gb) (by omega)
              have bL2 := hb7.blk (bL2.grow gb) (by omega)
              have bL3 : Blk w6 w5.heap.size 3 [.int .i64 f0, .int .i64 r, .int .i64 f0] := hb7.blk (Blk.new_at rfl) (by have := hs6.lt; omega)
              have bG7 := hb7.blk (bG6.grow gb) hGg
              have iW7 := (iW6.grow gb).but hb7 (hs6.grow gb)
              have hg7 := hb7.grow (hg6.trans gb) gg
              have gc : Grow w6 (w6.alloc (.cells #[.int .i64 d0, .int .i64 r2, .int .i64 d0] 3)) := (Grow.refl _).alloc _
              have bL4 : Blk (w6.alloc (.cells #[.int .i64 d0, .int .i64 r2, .int .i64 d0] 3)) w6.heap.size 3 [.int .i64 d0, .int .i64 r2, .int .i64 d0] := Blk.new_at rfl
              have bL1 := bL1.grow gc
              have bL2 := bL2.grow gc
              have bL3 := bL3.grow gc
              have iG := (bG7.is (zs := zs) (by unfold maxLen; omega)).grow gc
              have iWW := (iW7.grow gc).is
              have hg8 := hg7.trans gc
              have i0 := H0.out.grow hg8
              have i1 := H1.out.grow hg8
              have DR : ∀ t, t < 3 → RaceRow (w6.alloc (.cells #[.int .i64 d0, .int .i64 r2, .int .i64 d0] 3)) wE.heap.size (wE.heap.size + 1) w5.heap.size w6.heap.size t := by
                intro t ht
                rcases (show t = 0 ∨ t = 1 ∨ t = 2 by omega) with rfl | rfl | rfl
                · exact ⟨_, _, _, us, _, _, _, ws, f0, d0, bL1.cell 0, bL2.cell 0, bL3.cell 0, bL4.cell 0, i0, i1⟩
                · exact ⟨_, _, _, zs, _, _, _, ls, r, r2, bL1.cell 1, bL2.cell 1, bL3.cell 1, bL4.cell 1, iG, iWW⟩
                · exact ⟨_, _, _, zs, _, _, _, ws, f0, d0, bL1.cell 2, bL2.cell 2, bL3.cell 2, bL4.cell 2, iG, i1⟩
              have HD := hid DR
              clear DR bL1 bL2 bL3 bL4 iG iWW i0 i1 iW7 bG7 bG6 iW6 gb gc hs6 hs7 hb7 hg7 hg6 lt1 lt2 gl sz5 HZ H0 H1 HW HBG
              generalize w6.alloc (.cells #[.int .i64 d0, .int .i64 r2, .int .i64 d0] 3) = wL at *
              generalize wE.heap.size + 1 = L2 at *
              generalize wE.heap.size = L1 at *
              generalize w5.heap.size = L3 at *
              generalize w6.heap.size = L4 at *
              go_loopw [22] (fun i wr => ∃ t : Nat, t ≤ 3 ∧ i = .int .i64 (t : Int) ∧ Grow wL wr) (fun i _ => 3 - (intOf i).toNat)
              case atStart => exact ⟨0, by omega, rfl, Grow.refl _⟩
              case round =>
              obtain ⟨t, ht, rfl, hgr⟩ := hrel
              by_cases hlt : t < 3
              case neg =>
                go_wp2_with fail
                refine (AW.out _ (hg8.trans hgr)).mono ?_
                rintro e w8 ⟨rfl, g8⟩
                go_wp2
                go_ret
                exact ⟨rfl, g8⟩
              case pos =>
              have ilt : (t : Int) < 3 := by omega
              have it0 : (0 : Int) ≤ (t : Int) := by omega
              obtain ⟨A, m, c, zs, B, k, d, xs, F, D, r1, r2, r3, r4, i1, i2⟩ := (HD.out t hlt).grow hgr
              obtain ⟨w5, rfl⟩ : ∃ x : World, x = wr := ⟨_, rfl⟩
              have D1 : ∀ W, Grow w5 W → Calls Try.prog 41 #[.slice A m c, .slice B k d, .int .i64 F, .int .i64 D] W (RaceRes W (if raceErr zs xs F D = 0 then xs.length else 0) (raceF zs xs F D) (if raceErr zs xs F D = 0 then raceN zs xs D else 0) (if raceErr zs xs F D = 0 then raceA zs xs else 0) (raceErr zs xs F D)) := fun W hg => Racing_any _ _ zs xs F D W (i1.grow hg) (i2.grow hg)
              have D2 : ∀ W, Grow w5 W → Calls Try.prog 42 #[.slice A m c, .slice B k d, .int .i64 F, .int .i64 D] W (RaceRes W (if raceErr zs xs F D = 0 then xs.length else 0) (raceF zs xs F D) (if raceErr zs xs F D = 0 then raceN zs xs D else 0) (if raceErr zs xs F D = 0 then raceA zs xs else 0) (raceErr zs xs F D)) := fun W hg => rRacing_any _ _ zs xs F D W (i1.grow hg) (i2.grow hg)
              generalize (if raceErr zs xs F D = 0 then xs.length else 0) = N at D1 D2
              generalize (if raceErr zs xs F D = 0 then raceN zs xs D else 0) = nn at D1 D2
              generalize (if raceErr zs xs F D = 0 then raceA zs xs else 0) = aa at D1 D2
              generalize raceErr zs xs F D = er at D1 D2
              generalize raceF zs xs F D = ff at D1 D2
              have E1 := hid D1
              have E2 := hid D2
              have KS := hid (fun W (hg : Grow w5 W) => (⟨hg, hg.cell_some r1, hg.cell_some r2, hg.cell_some r3, hg.cell_some r4⟩ : Grow w5 W ∧ W.cell? ⟨L1, t, none⟩ = some (.slice A m c) ∧ W.cell? ⟨L2, t, none⟩ = some (.slice B k d) ∧ W.cell? ⟨L3, t, none⟩ = some (.int .i64 F) ∧ W.cell? ⟨L4, t, none⟩ = some (.int .i64 D)))
              clear D1 D2 r1 r2 r3 r4 i1 i2
              have KS21 := hid (fun W (hg : Grow w5 W) => (⟨hg, (KS.out W ((Grow.refl w5).trans hg)).2⟩ : Grow w5 W ∧ W.cell? ⟨L1, t, none⟩ = some (.slice A m c) ∧ W.cell? ⟨L2, t, none⟩ = some (.slice B k d) ∧ W.cell? ⟨L3, t, none⟩ = some (.int .i64 F) ∧ W.cell? ⟨L4, t, none⟩ = some (.int .i64 D)))
              go_upto_region 21 with fail
              go_cut [23, 24] from 95 to 149 (fun p s wx => RBox wx p N ff nn aa ∧ s = .int .i64 er ∧ Grow w5 wx)
              case first =>
                go_region_held3 (fun W => Grow w5 W ∧ W.cell? ⟨L1, t, none⟩ = some (.slice A m c) ∧ W.cell? ⟨L2, t, none⟩ = some (.slice B k d) ∧ W.cell? ⟨L3, t, none⟩ = some (.int .i64 F) ∧ W.cell? ⟨L4, t, none⟩ = some (.int .i64 D))
                  (exact KS21.out _ (by first | assumption | exact (Grow.refl _).drew | exact Grow.alloc (‹Grow w5 _ ∧ _›).1 _ | exact Grow.alloc (by assumption) _ | exact (Grow.set (Grow.set (Grow.set (by assumption) (Nat.le_refl _) _) (Nat.le_refl _) _) (Nat.le_refl _) _)))
                  (first
                    | (go_at_call 41; have hS := (‹Grow w5 _ ∧ _›).1; refine (E1.out _ ((Grow.refl w5).trans hS)).mono ?_; rintro e wA ⟨vA, rfl, kA, gA⟩; have hkA := hS.trans gA; obtain ⟨X1, y1, X2, x2, y2, X3, x3, y3, rfl, kA1, kA2, kA3⟩ := kA.open_; (first | ((first | (with_reducible have hq : Grow (World.alloc _ _) wA := gA) | (with_reducible have hq : Grow (World.drew (World.alloc _ _)) wA := gA)); have zb := gA.blk_some (k := w5.heap.size) (o := .cells #[.slice none 0 0, .slice none 0 0, .slice none 0 0] 60 (0, 0)) (heap_alloc_new w5 (.cells #[.slice none 0 0, .slice none 0 0, .slice none 0 0] 60)); have z0 := Blk.cell (xs := [.slice none 0 0, .slice none 0 0, .slice none 0 0]) zb 0; have z1 := Blk.cell (xs := [.slice none 0 0, .slice none 0 0, .slice none 0 0]) zb 1; have z2 := Blk.cell (xs := [.slice none 0 0, .slice none 0 0, .slice none 0 0]) zb 2; have u0 := Blk.free (xs := [.slice none 0 0, .slice none 0 0, .slice none 0 0]) zb 0; have u1 := Blk.free (xs := [.slice none 0 0, .slice none 0 0, .slice none 0 0]) zb 1; have u2 := Blk.free (xs := [.slice none 0 0, .slice none 0 0, .slice none 0 0]) zb 2) | skip)))
                all_goals
                  go_wp2_with fail
                  go_meet
                  first
                    | exact ⟨rbox_new kA, rfl, hkA.alloc _⟩
                    | exact ⟨rbox_set zb kA, rfl, ((hkA.set (Nat.le_refl _) _).set (Nat.le_refl _) _).set (Nat.le_refl _) _⟩
              case rest =>
              clear KS21
              obtain ⟨b21, rfl, g21⟩ := hcut
              obtain ⟨wc1, rfl⟩ : ∃ x : World, x = wc := ⟨_, rfl⟩
              have t21 := g21
              have KS22 := hid (fun W (hg : Grow wc1 W) => (⟨hg, (KS.out W (t21.trans hg)).2⟩ : Grow wc1 W ∧ W.cell? ⟨L1, t, none⟩ = some (.slice A m c) ∧ W.cell? ⟨L2, t, none⟩ = some (.slice B k d) ∧ W.cell? ⟨L3, t, none⟩ = some (.int .i64 F) ∧ W.cell? ⟨L4, t, none⟩ = some (.int .i64 D)))
              go_upto_region 22 with fail
              go_cut [25, 26] from 95 to 149 (fun p s wx => RBox wx p N ff nn aa ∧ s = .int .i64 er ∧ Grow wc1 wx)
              case first =>
                go_region_held3 (fun W => Grow wc1 W ∧ W.cell? ⟨L1, t, none⟩ = some (.slice A m c) ∧ W.cell? ⟨L2, t, none⟩ = some (.slice B k d) ∧ W.cell? ⟨L3, t, none⟩ = some (.int .i64 F) ∧ W.cell? ⟨L4, t, none⟩ = some (.int .i64 D))
                  (exact KS22.out _ (by first | assumption | exact (Grow.refl _).drew | exact Grow.alloc (‹Grow wc1 _ ∧ _›).1 _ | exact Grow.alloc (by assumption) _ | exact (Grow.set (Grow.set (Grow.set (by assumption) (Nat.le_refl _) _) (Nat.le_refl _) _) (Nat.le_refl _) _)))
                  (first
                    | (go_at_call 42; have hS := (‹Grow wc1 _ ∧ _›).1; refine (E2.out _ (t21.trans hS)).mono ?_; rintro e wA ⟨vA, rfl, kA, gA⟩; have hkA := hS.trans gA; obtain ⟨X1, y1, X2, x2, y2, X3, x3, y3, rfl, kA1, kA2, kA3⟩ := kA.open_; (first | ((first | (with_reducible have hq : Grow (World.alloc _ _) wA := gA) | (with_reducible have hq : Grow (World.drew (World.alloc _ _)) wA := gA)); have zb := gA.blk_some (k := wc1.heap.size) (o := .cells #[.slice none 0 0, .slice none 0 0, .slice none 0 0] 60 (0, 0)) (heap_alloc_new wc1 (.cells #[.slice none 0 0, .slice none 0 0, .slice none 0 0] 60)); have z0 := Blk.cell (xs := [.slice none 0 0, .slice none 0 0, .slice none 0 0]) zb 0; have z1 := Blk.cell (xs := [.slice none 0 0, .slice none 0 0, .slice none 0 0]) zb 1; have z2 := Blk.cell (xs := [.slice none 0 0, .slice none 0 0, .slice none 0 0]) zb 2; have u0 := Blk.free (xs := [.slice none 0 0, .slice none 0 0, .slice none 0 0]) zb 0; have u1 := Blk.free (xs := [.slice none 0 0, .slice none 0 0, .slice none 0 0]) zb 1; have u2 := Blk.free (xs := [.slice none 0 0, .slice none 0 0, .slice none 0 0]) zb 2) | skip)))
                all_goals
                  go_wp2_with fail
                  go_meet
                  first
                    | exact ⟨rbox_new kA, rfl, hkA.alloc _⟩
                    | exact ⟨rbox_set zb kA, rfl, ((hkA.set (Nat.le_refl _) _).set (Nat.le_refl _) _).set (Nat.le_refl _) _⟩
              case rest =>
              clear KS22
              obtain ⟨b22, rfl, g22⟩ := hcut
              obtain ⟨wc2, rfl⟩ : ∃ x : World, x = wc := ⟨_, rfl⟩
              have t22 := t21.trans g22
              obtain ⟨P1, x1, x2, x3, rfl, bb1, k1⟩ := b21.grow g22
              obtain ⟨P2, y1, y2, y3, rfl, bb2, k2⟩ := b22
              have SR := hid (same_race _ _ N ff nn aa wc2 k1 k2)
              obtain ⟨X1, c1', X2, m2', c2', X3, m3', c3', e1, _⟩ := k1.open_
              obtain ⟨Y1, e1', Y2, n2', e2', Y3, n3', e3', e2, _⟩ := k2.open_
              injection e1 with e1
              injection e1 with e1
              injection e1 with f1 e1
              injection e1 with f2 e1
              injection e1 with f3 e1
              injection e2 with e2
              injection e2 with e2
              injection e2 with f4 e2
              injection e2 with f5 e2
              injection e2 with f6 e2
              subst f1 f2 f3 f4 f5 f6
              have s1 := bb1.cell 0
              have s2 := bb1.cell 1
              have s3 := bb1.cell 2
              have s4 := bb2.cell 0
              have s5 := bb2.cell 1
              have s6 := bb2.cell 2
              simp only [List.getElem?_cons_zero, List.getElem?_cons_succ] at s1 s2 s3 s4 s5 s6
              clear b21 g21 g22 k1 k2 bb1 bb2 KS E1 E2 t21 e1 e2
              go_wp2_with fail
              refine SR.out.mono ?_
              rintro e w6 ⟨rfl, h6⟩
              go_wp2
              exact ⟨⟨t + 1, by omega, by go_num, hgr.trans (t22.trans h6)⟩, by simp only [intOf]; omega⟩
end Go.Proofs.Ytgphdaipgodjgaa
