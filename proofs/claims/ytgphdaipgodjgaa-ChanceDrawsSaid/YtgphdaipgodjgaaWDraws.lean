/-
  The walk of the law ChanceDraws.
-/
import Derived.Test.YtgphdaipgodjgaaRefDr
import Derived.Test.YtgphdaipgodjgaaApp
import Derived.Test.YtgphdaipgodjgaaWBetter
import Derived.Deep.DeepCutAuto
import Derived.Deep.CutRange
namespace Go.Proofs.Ytgphdaipgodjgaa
open Go.RowKit

/-- What a round of the law is handed: three lists and a number. -/
def DrawRow (w : World) (L1 L2 L3 L4 t : Nat) : Prop := ∃ (A : Option Addr) (m c : Nat) (zs : List Int) (B : Option Addr) (k d : Nat) (xs : List Int) (C : Option Addr) (j y : Nat) (ys : List Int) (q : Int),
  w.cell? ⟨L1, t, none⟩ = some (.slice A m c) ∧ w.cell? ⟨L2, t, none⟩ = some (.slice B k d) ∧ w.cell? ⟨L3, t, none⟩ = some (.slice C j y) ∧ w.cell? ⟨L4, t, none⟩ = some (.int .i64 q) ∧
  IsInts w (.slice A m c) zs ∧ IsInts w (.slice B k d) xs ∧ IsInts w (.slice C j y) ys ∧ zs.length ≤ 1000
theorem DrawRow.grow {w w' : World} {L1 L2 L3 L4 t : Nat} (h : DrawRow w L1 L2 L3 L4 t) (g : Grow w w') : DrawRow w' L1 L2 L3 L4 t := by
  obtain ⟨A, m, c, zs, B, k, d, xs, C, j, y, ys, q, h1, h2, h3, h4, h5, h6, h7, h8⟩ := h
  exact ⟨A, m, c, zs, B, k, d, xs, C, j, y, ys, q, g.cell_some h1, g.cell_some h2, g.cell_some h3, g.cell_some h4, h5.grow g, h6.grow g, h7.grow g, h8⟩
theorem Equal_same (v1 v2 : Value) (xs : List Int) (w : World) (h1 : IsInts w v1 xs) (h2 : IsInts w v2 xs) : Calls Try.prog 36 #[v1, v2] w (Says w (.bool true)) := by
  have h := Equal_any v1 v2 xs xs w h1 h2
  simpa using h
theorem IsInts.open_ {w : World} {v : Value} {zs : List Int} (h : IsInts w v zs) : ∃ A m c, v = .slice A m c := by
  obtain ⟨A, c, rfl, _⟩ := h
  exact ⟨A, _, c, rfl⟩

/-- A pointer to odds. -/
def OddsBox (w : World) (p : Value) (a b : Int) : Prop := ∃ (P : Nat) (X : Option Addr) (m c : Nat) (Y : Option Addr) (k d : Nat), p = .pointer (some ⟨P, 0, none⟩) ∧ Blk w P 25 [.slice X m c, .slice Y k d] ∧ IsNatF w (.slice X m c) a ∧ IsNatF w (.slice Y k d) b
theorem OddsBox.grow {w w' : World} {p : Value} {a b : Int} (h : OddsBox w p a b) (g : Grow w w') : OddsBox w' p a b := by
  obtain ⟨P, X, m, c, Y, k, d, h1, h2, h3, h4⟩ := h
  exact ⟨P, X, m, c, Y, k, d, h1, h2.grow g, h3.grow g, h4.grow g⟩

theorem box_new {w : World} {X Y : Option Addr} {m c k d : Nat} {a b : Int} (h1 : IsNatF w (.slice X m c) a) (h2 : IsNatF w (.slice Y k d) b) : OddsBox (w.alloc (.cells #[.slice X m c, .slice Y k d] 25)) (.pointer (some ⟨w.heap.size, 0, none⟩)) a b :=
  ⟨_, _, _, _, _, _, _, rfl, Blk.new_at rfl, h1.grow ((Grow.refl _).alloc _), h2.grow ((Grow.refl _).alloc _)⟩
theorem box_set {w : World} {g : Nat} {X Y : Option Addr} {m c k d : Nat} {a b : Int} (hb : Blk w g 25 [.slice none 0 0, .slice none 0 0]) (h1 : IsNatF w (.slice X m c) a) (h2 : IsNatF w (.slice Y k d) b) : OddsBox ((w.setCell ⟨g, 0, none⟩ (.slice X m c)).setCell ⟨g, 1, none⟩ (.slice Y k d)) (.pointer (some ⟨g, 0, none⟩)) a b :=
  ⟨_, _, _, _, _, _, _, rfl, (hb.set 0 _).set 1 _, h1.butG (((But.refl _ _).set 0 _).set 1 _) hb (by decide), h2.butG (((But.refl _ _).set 0 _).set 1 _) hb (by decide)⟩

set_option maxRecDepth 100000 in
set_option maxHeartbeats 8000000 in
theorem walkChanceDraws (v0 : Value) (us : List Int) (v1 : Value) (ws : List Int) (v2 : Value) (ks : List Int) (n : Int) (v4 : Value) (ns : List Int) (w : World) (h0 : IsInts w v0 us) (_z0 : ∀ z ∈ us, (Lit.int .i64 z).wf = true) (h1 : IsInts w v1 ws) (_z1 : ∀ z ∈ ws, (Lit.int .i64 z).wf = true) (h2 : IsInts w v2 ks) (_z2 : ∀ z ∈ ks, (Lit.int .i64 z).wf = true) (_w3 : (Lit.int .i64 n).wf = true) (h4 : IsInts w v4 ns) (_z4 : ∀ z ∈ ns, (Lit.int .i64 z).wf = true) :
    Calls Try.prog 6 #[v0, v1, v2, .int .i64 n, v4] w (Gives w (.bool true)) := by
  clear _z0 _z1 _z2 _w3 _z4
  have H0 := hid h0
  have H1 := hid h1
  have H2 := hid h2
  obtain ⟨A0, c0, rfl, _, m0, _⟩ := h0
  obtain ⟨A1, c1, rfl, _, m1, _⟩ := h1
  obtain ⟨A2, c2, rfl, _, m2, _⟩ := h2
  unfold maxLen at m0 m1 m2
  have AW := hid (fun W (hg : Grow w W) => (awake_any W).mono (fun e w' h => (⟨h.1, hg.trans h.2⟩ : Gives w (.bool true) e w')))
  by_cases b1 : 50 < us.length
  · have d1 : (50 : Int) < (us.length : Int) := by omega
    go_enter Try.func6, Try.ntmps6
    go_wp2_with fail
    refine (AW.out _ (Grow.refl _)).mono ?_
    rintro e w1 ⟨rfl, g1⟩
    go_wp2
    go_ret
    exact ⟨rfl, g1⟩
  · have d1 : ¬ (50 : Int) < (us.length : Int) := by omega
    by_cases b2 : 50 < ws.length
    · have d2 : (50 : Int) < (ws.length : Int) := by omega
      go_enter Try.func6, Try.ntmps6
      go_wp2_with fail
      refine (AW.out _ (Grow.refl _)).mono ?_
      rintro e w1 ⟨rfl, g1⟩
      go_wp2
      go_ret
      exact ⟨rfl, g1⟩
    · have d2 : ¬ (50 : Int) < (ws.length : Int) := by omega
      by_cases b3 : 50 < ks.length
      · have d3 : (50 : Int) < (ks.length : Int) := by omega
        go_enter Try.func6, Try.ntmps6
        go_wp2_with fail
        refine (AW.out _ (Grow.refl _)).mono ?_
        rintro e w1 ⟨rfl, g1⟩
        go_wp2
        go_ret
        exact ⟨rfl, g1⟩
      · have d3 : ¬ (50 : Int) < (ks.length : Int) := by omega
        go_enter Try.func6, Try.ntmps6
        go_wp2_with fail
        refine (NewSource_any _ _ _ h4).mono ?_
        rintro e wA ⟨g, rfl, gg, hs1, hg1⟩
        clear h4
        go_wp2_with fail
        refine (Range_any g 1 12 _ hs1 (by omega) (by omega) (by omega)).mono ?_
        rintro e wB ⟨K, rfl, k0, k1, hs2, hb2⟩
        obtain ⟨K, rfl⟩ := Int.eq_ofNat_of_zero_le (show 0 ≤ K by omega)
        have hg2 := hb2.grow hg1 gg
        clear hs1 hg1 hb2
        go_wp2_with fail
        refine (UnseenOf_any g K 40 _ hs2 (by omega) (by omega) (by omega)).mono ?_
        rintro e wC ⟨G, zs, rfl, bG, hG, hlK, hzw, hsum, hs3, hb3⟩
        have hg3 := hb3.grow hg2 gg
        have hGg : G ≠ g := by have := hs2.lt; omega
        have hGw : w.heap.size ≤ G := by have := hg2.size; omega
        have hzl : zs.length ≤ 12 := by omega
        have HZ := hid hzw
        clear hs2 hg2 hb3 hG hlK hsum hzw k0 k1
        go_wp2_with (at_make; refine wpList_make_blk w _ rfl (.tmp 52) (.tmp 52) _ rfl 3 (.int .i64 0) 8 Try.underlying22 infoInt rfl _ _ _ _ zs.length rfl rfl (by omega) (by omega) (by omega) (by omega) hg3 ?_; intro G2 wD bD hG2w hG2 hgD hgD')
        have hG2g : G2 ≠ g := by have := hs3.lt; omega
        have hG2G : G2 ≠ G := by have := bG.lt; omega
        have hs4 := hs3.grow hgD'
        have bG4 := bG.grow hgD'
        clear hg3 hs3 hgD' bG hG2
        have bD2 : Blk wD G2 3 (ints (List.replicate zs.length 0)) := by simpa [ints] using bD
        clear bD
        go_loopw [14] (fun i wr => ∃ (k : Nat) (xs : List Int), k ≤ zs.length ∧ i = .int .i64 (k : Int) ∧ xs.length = zs.length ∧ Blk wr G 3 (ints zs) ∧ Blk wr G2 3 (ints xs) ∧ Src wr g ∧ Grow w wr) (fun i _ => zs.length - (intOf i).toNat)
        case atStart => exact ⟨0, _, Nat.zero_le _, rfl, by simp, bG4, bD2, hs4, hgD⟩
        case round =>
          clear bG4 bD2 hs4 hgD
          obtain ⟨k, xs, hk, rfl, hxl, bG, bX, hs, hg⟩ := hrel
          have HXL := hid hxl
          by_cases hlt : k < zs.length
          · have i1 : (k : Int) < (zs.length : Int) := by omega
            have i0 : (0 : Int) ≤ (k : Int) := by omega
            have hkx : k < xs.length := by omega
            have hz4 := HZ.out.at_ hlt
            clear hxl
            go_wp2_with fail
            refine (Odds_any g 3 _ hs (by omega)).mono ?_
            rintro e w2 ⟨b, rfl, hs2, hb2⟩
            have bG2 := hb2.blk bG hGg
            have bX2 := hb2.blk bX hG2g
            have hg2 := hb2.grow hg gg
            clear hs hb2 bG bX hg
            cases b
            · go_wp2
              exact ⟨⟨k + 1, xs, by omega, by go_num, HXL.out, bG2, bX2, hs2, hg2⟩, by simp only [intOf]; omega⟩
            · have q0 := bG2.cell_int hlt
              go_wp2_with fail
              refine (Below_any g _ _ hs2 (by omega)).mono ?_
              rintro e w3 ⟨r, rfl, _, _, _, hs3, hb3⟩
              have bG3 := hb3.blk bG2 hGg
              have bX3 := hb3.blk bX2 hG2g
              have hg3 := hb3.grow hg2 gg
              have q1 := bX3.cell_int hkx
              have f1 := bX3.free k
              clear q0 bG2 bX2 hg2 hs2
              go_wp2
              exact ⟨⟨k + 1, xs.set k r, by omega, by go_num, by rw [List.length_set]; exact HXL.out, bG3.far (by simpa using hG2G.symm) _, bX3.set_int k r, hs3.setFar (by simp; omega) _, hg3.set hG2w _⟩, by simp only [intOf]; omega⟩
          · clear hxl
            have iG : IsInts wr (.slice (some ⟨G, 0, none⟩) zs.length zs.length) zs := bG.is (by unfold maxLen; omega)
            have iX : IsInts wr (.slice (some ⟨G2, 0, none⟩) zs.length zs.length) xs := by
              have h := bX.is (by have := HXL.out; unfold maxLen; omega)
              rwa [HXL.out] at h
            have HG := hid bG
            have HX := hid bX
            go_wp2
            go_loop [15, 16] (fun m i => ∃ k : Nat, k ≤ zs.length ∧ i = .int .i64 (k : Int) ∧ m = .int .i64 (sumI (zs.take k))) (fun _ i => zs.length - (intOf i).toNat)
            case atStart => exact ⟨0, Nat.zero_le _, rfl, rfl⟩
            case round =>
              obtain ⟨k, hk, rfl, rfl⟩ := hrel
              have hb := (HZ.out.take k).sum
              have hlk : (zs.take k).length = k := by rw [List.length_take]; omega
              rw [hlk] at hb
              have hb1 : 0 ≤ sumI (zs.take k) ∧ sumI (zs.take k) ≤ 100 := by omega
              clear hb hlk
              by_cases hlt : k < zs.length
              · have i0 : (0 : Int) ≤ (k : Int) := by omega
                have i1 : (k : Int) < (zs.length : Int) := by omega
                have q0 := HG.out.cell_int hlt
                have bx := HZ.out.at_ hlt
                have HS := hid (sumI_take zs hlt)
                go_wp2
                exact ⟨⟨k + 1, by omega, by go_num, by rw [HS.out]⟩, by simp only [intOf]; omega⟩
              · generalize sumI (zs.take k) = M at *
                go_wp2_with fail
                have ga : Grow wr ((wr.alloc (.cells #[.slice A0 us.length c0, .slice (some ⟨G, 0, none⟩) zs.length zs.length, .slice (some ⟨G, 0, none⟩) zs.length zs.length] 22)).alloc (.cells #[.slice A1 ws.length c1, .slice (some ⟨G2, 0, none⟩) zs.length zs.length, .slice A1 ws.length c1] 22)) := ((Grow.refl _).alloc _).alloc _
                refine (PlacesOf_any g zs.length 3 _ (hs.grow ga) (by omega) (by omega)).mono ?_
                rintro e w5 ⟨vP, ps, rfl, kP, _, hs5, hb5⟩
                have bL1 : Blk w5 wr.heap.size 22 [.slice A0 us.length c0, .slice (some ⟨G, 0, none⟩) zs.length zs.length, .slice (some ⟨G, 0, none⟩) zs.length zs.length] := hb5.blk (Blk.grow (Blk.new_at rfl) ((Grow.refl _).alloc _)) (by have := hs.lt; omega)
                have bL2 : Blk w5 (wr.heap.size + 1) 22 [.slice A1 ws.length c1, .slice (some ⟨G2, 0, none⟩) zs.length zs.length, .slice A1 ws.length c1] := hb5.blk (Blk.new_at (by simp)) (by have := hs.lt; omega)
                have bG5 := hb5.blk (HG.out.grow ga) hGg
                have bX5 := hb5.blk (HX.out.grow ga) hG2g
                have hg5 := hb5.grow (hg.trans ga) gg
                obtain ⟨A3, m3, c3, rfl⟩ := kP.1.open_
                have sz5 := hb5.size
                have gl := hs.lt
                simp only [World.size_alloc] at sz5
                clear iG iX hs hb5 ga HG HX bG bX hg
                go_wp2_with fail
                have gb : Grow w5 (w5.alloc (.cells #[.slice A2 ks.length c2, .slice A3 m3 c3, .slice A2 ks.length c2] 22)) := (Grow.refl _).alloc _
                refine (Below_any g _ _ (hs5.grow gb) (by omega)).mono ?_
                rintro e w6 ⟨r, rfl, _, _, _, hs6, hb6⟩
                go_wp2
                have lt1 := bL1.lt
                have lt2 := bL2.lt
                have bL1 := hb6.blk (bL1.grow gb) (by omega)
                have bL2 := hb6.blk (bL2.grow gb) (by omega)
                have bL3 : Blk w6 w5.heap.size 22 [.slice A2 ks.length c2, .slice A3 m3 c3, .slice A2 ks.length c2] := hb6.blk (Blk.new_at rfl) (by have := hs5.lt; omega)
                have bG6 := hb6.blk (bG5.grow gb) hGg
                have bX6 := hb6.blk (bX5.grow gb) hG2g
                have kP6 := (kP.grow gb).but hb6 (hs5.grow gb)
                have hg6 := hb6.grow (hg5.trans gb) gg
                have gc : Grow w6 (w6.alloc (.cells #[.int .i64 n, .int .i64 r, .int .i64 n] 3)) := (Grow.refl _).alloc _
                have bL4 : Blk (w6.alloc (.cells #[.int .i64 n, .int .i64 r, .int .i64 n] 3)) w6.heap.size 3 [.int .i64 n, .int .i64 r, .int .i64 n] := Blk.new_at rfl
                have bL1 := bL1.grow gc
                have bL2 := bL2.grow gc
                have bL3 := bL3.grow gc
                have iG := (bG6.is (zs := zs) (by unfold maxLen; omega)).grow gc
                have iX : IsInts (w6.alloc (.cells #[.int .i64 n, .int .i64 r, .int .i64 n] 3)) (.slice (some ⟨G2, 0, none⟩) zs.length zs.length) xs := by
                  have h := (bX6.is (zs := xs) (by have := HXL.out; unfold maxLen; omega)).grow gc
                  rwa [HXL.out] at h
                have iP := kP6.1.grow gc
                have hg7 := hg6.trans gc
                have i0 := H0.out.grow hg7
                have i1 := H1.out.grow hg7
                have i2 := H2.out.grow hg7
                have DR : ∀ t, t < 3 → DrawRow (w6.alloc (.cells #[.int .i64 n, .int .i64 r, .int .i64 n] 3)) wr.heap.size (wr.heap.size + 1) w5.heap.size w6.heap.size t := by
                  intro t ht
                  rcases (show t = 0 ∨ t = 1 ∨ t = 2 by omega) with rfl | rfl | rfl
                  · exact ⟨_, _, _, us, _, _, _, ws, _, _, _, ks, n, bL1.cell 0, bL2.cell 0, bL3.cell 0, bL4.cell 0, i0, i1, i2, by omega⟩
                  · exact ⟨_, _, _, zs, _, _, _, xs, _, _, _, ps, r, bL1.cell 1, bL2.cell 1, bL3.cell 1, bL4.cell 1, iG, iX, iP, by omega⟩
                  · exact ⟨_, _, _, zs, _, _, _, ws, _, _, _, ks, n, bL1.cell 2, bL2.cell 2, bL3.cell 2, bL4.cell 2, iG, i1, i2, by omega⟩
                have HD := hid DR
                clear DR bL1 bL2 bL3 bL4 iG iX iP i0 i1 i2 kP6 kP bG6 bX6 bG5 bX5 gb gc hg5 hs5 hs6 hb6 hg6 lt1 lt2 gl sz5 HZ H0 H1 H2 HXL
                generalize w6.alloc (.cells #[.int .i64 n, .int .i64 r, .int .i64 n] 3) = wL at *
                generalize wr.heap.size + 1 = L2 at *
                generalize wr.heap.size = L1 at *
                generalize w5.heap.size = L3 at *
                generalize w6.heap.size = L4 at *
                go_loopw [21] (fun i wr => ∃ t : Nat, t ≤ 3 ∧ i = .int .i64 (t : Int) ∧ Grow wL wr) (fun i _ => 3 - (intOf i).toNat)
                case atStart => exact ⟨0, by omega, rfl, Grow.refl _⟩
                case round =>
                  obtain ⟨t, ht, rfl, hgr⟩ := hrel
                  by_cases hlt : t < 3
                  · have ilt : (t : Int) < 3 := by omega
                    have it0 : (0 : Int) ≤ (t : Int) := by omega
                    obtain ⟨A, m, c, zs, B, k, d, xs, C, j, y, ys, q, r1, r2, r3, r4, i1, i2, i3, hzl⟩ := (HD.out t hlt).grow hgr
                    have ga : Grow wr (wr.alloc (.cells #[] 3)) := (Grow.refl _).alloc _
                    have o0 := hid (Own.lit0 (Grow.refl wr))
                    have I1 := hid (i1.grow ga)
                    have r5 := ga.cell_some r1
                    go_wp2_with (at_builtin; refine wpList_append_ints wr _ rfl (.tmp 112) (.tmp 116) _ rfl Try.underlying22 _ _ [] zs rfl o0.out rfl I1.out (by simp; omega) ga ?_; intro v5 w5 ho5 hg5 _)
                    obtain ⟨A5, m5, c5, rfl⟩ := ho5.is.open_
                    have OW := hid (fun W (hg : Grow w5 W) => ho5.is.grow hg)
                    have D1 : ∀ W, Grow w5 W → Calls Try.prog 31 #[.slice A5 m5 c5, .slice B k d, .int .i64 q] W (OddsErr W (if drawErr zs xs q = 0 then wayW zs xs zs.length q.toNat else 0) (if drawErr zs xs q = 0 then chooseI (sumI zs) q else 0) (drawErr zs xs q)) := fun W hg => Draws_any _ _ zs xs q W (OW.out W hg) (i2.grow (hg5.trans hg))
                    have D2 : ∀ W, Grow w5 W → Calls Try.prog 32 #[.slice A m c, .slice B k d, .int .i64 q] W (OddsErr W (if drawErr zs xs q = 0 then wayW zs xs zs.length q.toNat else 0) (if drawErr zs xs q = 0 then chooseI (sumI zs) q else 0) (drawErr zs xs q)) := fun W hg => rDraws_any _ _ zs xs q W (i1.grow (hg5.trans hg)) (i2.grow (hg5.trans hg))
                    have D3 : ∀ W, Grow w5 W → Calls Try.prog 33 #[.slice A5 m5 c5, .slice C j y, .int .i64 q] W (OddsErr W (if anyErr zs ys q = 0 then anyWays (sumI zs) (sumAt zs ys) q else 0) (if anyErr zs ys q = 0 then chooseI (sumI zs) q else 0) (anyErr zs ys q)) := fun W hg => Any_any _ _ zs ys q W (OW.out W hg) (i3.grow (hg5.trans hg))
                    have D4 : ∀ W, Grow w5 W → Calls Try.prog 34 #[.slice A m c, .slice C j y, .int .i64 q] W (OddsErr W (if anyErr zs ys q = 0 then anyWays (sumI zs) (sumAt zs ys) q else 0) (if anyErr zs ys q = 0 then chooseI (sumI zs) q else 0) (anyErr zs ys q)) := fun W hg => rAny_any _ _ zs ys q W (i1.grow (hg5.trans hg)) (i3.grow (hg5.trans hg))
                    have EQ := hid (fun W (hg : Grow w5 W) => Equal_same _ _ zs W (OW.out W hg) (i1.grow (hg5.trans hg)))
                    generalize (if drawErr zs xs q = 0 then wayW zs xs zs.length q.toNat else 0) = p1 at D1 D2
                    generalize (if drawErr zs xs q = 0 then chooseI (sumI zs) q else 0) = p2 at D1 D2
                    generalize drawErr zs xs q = er at D1 D2
                    generalize (if anyErr zs ys q = 0 then anyWays (sumI zs) (sumAt zs ys) q else 0) = p3 at D3 D4
                    generalize (if anyErr zs ys q = 0 then chooseI (sumI zs) q else 0) = p4 at D3 D4
                    generalize anyErr zs ys q = es at D3 D4
                    have E1 := hid D1
                    have E2 := hid D2
                    have E3 := hid D3
                    have E4 := hid D4
                    have r1 := hg5.cell_some r1
                    have r2 := hg5.cell_some r2
                    have r3 := hg5.cell_some r3
                    have r4 := hg5.cell_some r4
                    have KS := hid (fun W (hg : Grow w5 W) => (⟨hg, hg.cell_some r1, hg.cell_some r2, hg.cell_some r3, hg.cell_some r4⟩ : Grow w5 W ∧ W.cell? ⟨L1, t, none⟩ = some (.slice A m c) ∧ W.cell? ⟨L2, t, none⟩ = some (.slice B k d) ∧ W.cell? ⟨L3, t, none⟩ = some (.slice C j y) ∧ W.cell? ⟨L4, t, none⟩ = some (.int .i64 q)))
                    have hgr5 := hgr.trans hg5
                    clear D1 D2 D3 D4 r5 r1 r2 r3 r4 o0 I1 i1 i2 i3 ho5 hgr ga
                    have KS21 := hid (fun W (hg : Grow w5 W) => (⟨hg, (KS.out W ((Grow.refl w5).trans hg)).2⟩ : Grow w5 W ∧ W.cell? ⟨L1, t, none⟩ = some (.slice A m c) ∧ W.cell? ⟨L2, t, none⟩ = some (.slice B k d) ∧ W.cell? ⟨L3, t, none⟩ = some (.slice C j y) ∧ W.cell? ⟨L4, t, none⟩ = some (.int .i64 q)))
                    go_upto_region 21 with fail
                    go_cut [23, 24] from 106 to 204 (fun p s wx => OddsBox wx p p1 p2 ∧ s = .int .i64 er ∧ Grow w5 wx)
                    case first =>
                      go_region_held3 (fun W => Grow w5 W ∧ W.cell? ⟨L1, t, none⟩ = some (.slice A m c) ∧ W.cell? ⟨L2, t, none⟩ = some (.slice B k d) ∧ W.cell? ⟨L3, t, none⟩ = some (.slice C j y) ∧ W.cell? ⟨L4, t, none⟩ = some (.int .i64 q))
                        (exact KS21.out _ (by first | assumption | exact (Grow.refl _).drew | exact Grow.alloc (‹Grow w5 _ ∧ _›).1 _ | exact Grow.alloc (by assumption) _ | exact (Grow.set (Grow.set (by assumption) (Nat.le_refl _) _) (Nat.le_refl _) _)))
                        (first
                          | (go_at_call 31; have hS := (‹Grow w5 _ ∧ _›).1; refine (E1.out _ ((Grow.refl w5).trans hS)).mono ?_; rintro e wA ⟨vA, rfl, kA, gA⟩; have hkA := hS.trans gA; obtain ⟨X1, x1, y1, X2, x2, y2, rfl, kA1, kA2⟩ := kA.open_; (first | ((first | (with_reducible have hq : Grow (World.alloc _ _) wA := gA) | (with_reducible have hq : Grow (World.drew (World.alloc _ _)) wA := gA)); have zb := gA.blk_some (k := w5.heap.size) (o := .cells #[.slice none 0 0, .slice none 0 0] 25 (0, 0)) (heap_alloc_new w5 (.cells #[.slice none 0 0, .slice none 0 0] 25)); have z0 := Blk.cell (xs := [.slice none 0 0, .slice none 0 0]) zb 0; have z1 := Blk.cell (xs := [.slice none 0 0, .slice none 0 0]) zb 1; have u0 := Blk.free (xs := [.slice none 0 0, .slice none 0 0]) zb 0; have u1 := Blk.free (xs := [.slice none 0 0, .slice none 0 0]) zb 1) | skip)))
                      all_goals
                        go_wp2_with fail
                        go_meet
                        first
                          | exact ⟨box_new kA1 kA2, rfl, hkA.alloc _⟩
                          | exact ⟨box_set zb kA1 kA2, rfl, (hkA.set (Nat.le_refl _) _).set (Nat.le_refl _) _⟩
                    case rest =>
                    clear KS21
                    obtain ⟨b21, rfl, g21⟩ := hcut
                    obtain ⟨wc1, rfl⟩ : ∃ x : World, x = wc := ⟨_, rfl⟩
                    have t21 := g21
                    have KS22 := hid (fun W (hg : Grow wc1 W) => (⟨hg, (KS.out W (t21.trans hg)).2⟩ : Grow wc1 W ∧ W.cell? ⟨L1, t, none⟩ = some (.slice A m c) ∧ W.cell? ⟨L2, t, none⟩ = some (.slice B k d) ∧ W.cell? ⟨L3, t, none⟩ = some (.slice C j y) ∧ W.cell? ⟨L4, t, none⟩ = some (.int .i64 q)))
                    go_upto_region 22 with fail
                    go_cut [25, 26] from 106 to 204 (fun p s wx => OddsBox wx p p1 p2 ∧ s = .int .i64 er ∧ Grow wc1 wx)
                    case first =>
                      go_region_held3 (fun W => Grow wc1 W ∧ W.cell? ⟨L1, t, none⟩ = some (.slice A m c) ∧ W.cell? ⟨L2, t, none⟩ = some (.slice B k d) ∧ W.cell? ⟨L3, t, none⟩ = some (.slice C j y) ∧ W.cell? ⟨L4, t, none⟩ = some (.int .i64 q))
                        (exact KS22.out _ (by first | assumption | exact (Grow.refl _).drew | exact Grow.alloc (‹Grow wc1 _ ∧ _›).1 _ | exact Grow.alloc (by assumption) _ | exact (Grow.set (Grow.set (by assumption) (Nat.le_refl _) _) (Nat.le_refl _) _)))
                        (first
                          | (go_at_call 32; have hS := (‹Grow wc1 _ ∧ _›).1; refine (E2.out _ (t21.trans hS)).mono ?_; rintro e wA ⟨vA, rfl, kA, gA⟩; have hkA := hS.trans gA; obtain ⟨X1, x1, y1, X2, x2, y2, rfl, kA1, kA2⟩ := kA.open_; (first | ((first | (with_reducible have hq : Grow (World.alloc _ _) wA := gA) | (with_reducible have hq : Grow (World.drew (World.alloc _ _)) wA := gA)); have zb := gA.blk_some (k := wc1.heap.size) (o := .cells #[.slice none 0 0, .slice none 0 0] 25 (0, 0)) (heap_alloc_new wc1 (.cells #[.slice none 0 0, .slice none 0 0] 25)); have z0 := Blk.cell (xs := [.slice none 0 0, .slice none 0 0]) zb 0; have z1 := Blk.cell (xs := [.slice none 0 0, .slice none 0 0]) zb 1; have u0 := Blk.free (xs := [.slice none 0 0, .slice none 0 0]) zb 0; have u1 := Blk.free (xs := [.slice none 0 0, .slice none 0 0]) zb 1) | skip)))
                      all_goals
                        go_wp2_with fail
                        go_meet
                        first
                          | exact ⟨box_new kA1 kA2, rfl, hkA.alloc _⟩
                          | exact ⟨box_set zb kA1 kA2, rfl, (hkA.set (Nat.le_refl _) _).set (Nat.le_refl _) _⟩
                    case rest =>
                    clear KS22
                    obtain ⟨b22, rfl, g22⟩ := hcut
                    obtain ⟨wc2, rfl⟩ : ∃ x : World, x = wc := ⟨_, rfl⟩
                    have t22 := t21.trans g22
                    have KS23 := hid (fun W (hg : Grow wc2 W) => (⟨hg, (KS.out W (t22.trans hg)).2⟩ : Grow wc2 W ∧ W.cell? ⟨L1, t, none⟩ = some (.slice A m c) ∧ W.cell? ⟨L2, t, none⟩ = some (.slice B k d) ∧ W.cell? ⟨L3, t, none⟩ = some (.slice C j y) ∧ W.cell? ⟨L4, t, none⟩ = some (.int .i64 q)))
                    go_upto_region 23 with fail
                    go_cut [27, 28] from 106 to 204 (fun p s wx => OddsBox wx p p3 p4 ∧ s = .int .i64 es ∧ Grow wc2 wx)
                    case first =>
                      go_region_held3 (fun W => Grow wc2 W ∧ W.cell? ⟨L1, t, none⟩ = some (.slice A m c) ∧ W.cell? ⟨L2, t, none⟩ = some (.slice B k d) ∧ W.cell? ⟨L3, t, none⟩ = some (.slice C j y) ∧ W.cell? ⟨L4, t, none⟩ = some (.int .i64 q))
                        (exact KS23.out _ (by first | assumption | exact (Grow.refl _).drew | exact Grow.alloc (‹Grow wc2 _ ∧ _›).1 _ | exact Grow.alloc (by assumption) _ | exact (Grow.set (Grow.set (by assumption) (Nat.le_refl _) _) (Nat.le_refl _) _)))
                        (first
                          | (go_at_call 33; have hS := (‹Grow wc2 _ ∧ _›).1; refine (E3.out _ (t22.trans hS)).mono ?_; rintro e wA ⟨vA, rfl, kA, gA⟩; have hkA := hS.trans gA; obtain ⟨X1, x1, y1, X2, x2, y2, rfl, kA1, kA2⟩ := kA.open_; (first | ((first | (with_reducible have hq : Grow (World.alloc _ _) wA := gA) | (with_reducible have hq : Grow (World.drew (World.alloc _ _)) wA := gA)); have zb := gA.blk_some (k := wc2.heap.size) (o := .cells #[.slice none 0 0, .slice none 0 0] 25 (0, 0)) (heap_alloc_new wc2 (.cells #[.slice none 0 0, .slice none 0 0] 25)); have z0 := Blk.cell (xs := [.slice none 0 0, .slice none 0 0]) zb 0; have z1 := Blk.cell (xs := [.slice none 0 0, .slice none 0 0]) zb 1; have u0 := Blk.free (xs := [.slice none 0 0, .slice none 0 0]) zb 0; have u1 := Blk.free (xs := [.slice none 0 0, .slice none 0 0]) zb 1) | skip)))
                      all_goals
                        go_wp2_with fail
                        go_meet
                        first
                          | exact ⟨box_new kA1 kA2, rfl, hkA.alloc _⟩
                          | exact ⟨box_set zb kA1 kA2, rfl, (hkA.set (Nat.le_refl _) _).set (Nat.le_refl _) _⟩
                    case rest =>
                    clear KS23
                    obtain ⟨b23, rfl, g23⟩ := hcut
                    obtain ⟨wc3, rfl⟩ : ∃ x : World, x = wc := ⟨_, rfl⟩
                    have t23 := t22.trans g23
                    have KS24 := hid (fun W (hg : Grow wc3 W) => (⟨hg, (KS.out W (t23.trans hg)).2⟩ : Grow wc3 W ∧ W.cell? ⟨L1, t, none⟩ = some (.slice A m c) ∧ W.cell? ⟨L2, t, none⟩ = some (.slice B k d) ∧ W.cell? ⟨L3, t, none⟩ = some (.slice C j y) ∧ W.cell? ⟨L4, t, none⟩ = some (.int .i64 q)))
                    go_upto_region 24 with fail
                    go_cut [29, 30] from 106 to 204 (fun p s wx => OddsBox wx p p3 p4 ∧ s = .int .i64 es ∧ Grow wc3 wx)
                    case first =>
                      go_region_held3 (fun W => Grow wc3 W ∧ W.cell? ⟨L1, t, none⟩ = some (.slice A m c) ∧ W.cell? ⟨L2, t, none⟩ = some (.slice B k d) ∧ W.cell? ⟨L3, t, none⟩ = some (.slice C j y) ∧ W.cell? ⟨L4, t, none⟩ = some (.int .i64 q))
                        (exact KS24.out _ (by first | assumption | exact (Grow.refl _).drew | exact Grow.alloc (‹Grow wc3 _ ∧ _›).1 _ | exact Grow.alloc (by assumption) _ | exact (Grow.set (Grow.set (by assumption) (Nat.le_refl _) _) (Nat.le_refl _) _)))
                        (first
                          | (go_at_call 34; have hS := (‹Grow wc3 _ ∧ _›).1; refine (E4.out _ (t23.trans hS)).mono ?_; rintro e wA ⟨vA, rfl, kA, gA⟩; have hkA := hS.trans gA; obtain ⟨X1, x1, y1, X2, x2, y2, rfl, kA1, kA2⟩ := kA.open_; (first | ((first | (with_reducible have hq : Grow (World.alloc _ _) wA := gA) | (with_reducible have hq : Grow (World.drew (World.alloc _ _)) wA := gA)); have zb := gA.blk_some (k := wc3.heap.size) (o := .cells #[.slice none 0 0, .slice none 0 0] 25 (0, 0)) (heap_alloc_new wc3 (.cells #[.slice none 0 0, .slice none 0 0] 25)); have z0 := Blk.cell (xs := [.slice none 0 0, .slice none 0 0]) zb 0; have z1 := Blk.cell (xs := [.slice none 0 0, .slice none 0 0]) zb 1; have u0 := Blk.free (xs := [.slice none 0 0, .slice none 0 0]) zb 0; have u1 := Blk.free (xs := [.slice none 0 0, .slice none 0 0]) zb 1) | skip)))
                      all_goals
                        go_wp2_with fail
                        go_meet
                        first
                          | exact ⟨box_new kA1 kA2, rfl, hkA.alloc _⟩
                          | exact ⟨box_set zb kA1 kA2, rfl, (hkA.set (Nat.le_refl _) _).set (Nat.le_refl _) _⟩
                    case rest =>
                    clear KS24
                    obtain ⟨b24, rfl, g24⟩ := hcut
                    obtain ⟨wc4, rfl⟩ : ∃ x : World, x = wc := ⟨_, rfl⟩
                    have t24 := t23.trans g24
                    obtain ⟨P1, X1, x1, y1, Y1, x1', y1', rfl, bb1, k1, k1'⟩ := b21.grow (g22.trans (g23.trans g24))
                    obtain ⟨P2, X2, x2, y2, Y2, x2', y2', rfl, bb2, k2, k2'⟩ := b22.grow (g23.trans g24)
                    obtain ⟨P3, X3, x3, y3, Y3, x3', y3', rfl, bb3, k3, k3'⟩ := b23.grow g24
                    obtain ⟨P4, X4, x4, y4, Y4, x4', y4', rfl, bb4, k4, k4'⟩ := b24
                    have SO1 := hid (SameOdds_same _ _ p1 p2 wc4 ⟨_, _, rfl, k1, k1'⟩ ⟨_, _, rfl, k2, k2'⟩)
                    have SO2 := hid (fun W (hg : Grow wc4 W) => SameOdds_same _ _ p3 p4 W ⟨_, _, rfl, k3.grow hg, k3'.grow hg⟩ ⟨_, _, rfl, k4.grow hg, k4'.grow hg⟩)
                    have s1 := bb1.cell 0
                    have s2 := bb1.cell 1
                    have s3 := bb2.cell 0
                    have s4 := bb2.cell 1
                    have s5 := bb3.cell 0
                    have s6 := bb3.cell 1
                    have s7 := bb4.cell 0
                    have s8 := bb4.cell 1
                    have s9 := (KS.out _ t24).2.1
                    simp only [List.getElem?_cons_zero, List.getElem?_cons_succ] at s1 s2 s3 s4 s5 s6 s7 s8
                    clear b21 b22 b23 g21 g22 g23 g24 k1 k2 k3 k4 k1' k2' k3' k4' bb1 bb2 bb3 bb4 KS E1 E2 E3 E4 t21 t22 t23
                    go_wp2_with fail
                    refine SO1.out.mono ?_
                    rintro e w6 ⟨rfl, h6⟩
                    have s5 := h6.cell_some s5
                    have s6 := h6.cell_some s6
                    have s7 := h6.cell_some s7
                    have s8 := h6.cell_some s8
                    have s9 := h6.cell_some s9
                    go_wp2_with fail
                    refine (SO2.out _ h6).mono ?_
                    rintro e w7 ⟨rfl, h7⟩
                    have s9 := h7.cell_some s9
                    go_wp2_with fail
                    refine (EQ.out _ (t24.trans (h6.trans h7))).mono ?_
                    rintro e w8 ⟨rfl, n8, rfl⟩
                    go_wp2
                    exact ⟨⟨t + 1, by omega, by go_num, (hgr5.trans (t24.trans (h6.trans h7))).drewN n8⟩, by simp only [intOf]; omega⟩
                  · go_wp2_with fail
                    refine (AW.out _ (hg7.trans hgr)).mono ?_
                    rintro e w8 ⟨rfl, g8⟩
                    go_wp2
                    go_ret
                    exact ⟨rfl, g8⟩
end Go.Proofs.Ytgphdaipgodjgaa
