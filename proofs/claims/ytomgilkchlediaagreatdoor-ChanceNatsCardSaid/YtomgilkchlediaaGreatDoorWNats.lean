/-
  The walk of the law ChanceNats.
-/
import Derived.Test.YtomgilkchlediaaGreatDoorNatsH
import Derived.Test.YtomgilkchlediaaGreatDoorAwake
import Derived.Test.YtomgilkchlediaaGreatDoorWBack
namespace Go.Proofs.YtomgilkchlediaaGreatDoor
open Go.RowKit

set_option maxRecDepth 100000 in
set_option maxHeartbeats 8000000 in
theorem walkChanceNats (v0 : Value) (ps : List Int) (v1 : Value) (qs : List Int) (S : ByteArray) (v3 : Value) (ns : List Int) (w : World) (h0 : IsInts w v0 ps) (h1 : IsInts w v1 qs) (hS : S.size ≤ maxLen) (h3 : IsInts w v3 ns) (hp : Pow10 w) :
    Calls Tryz.prog 4 #[v0, v1, .string S, v3] w (Gives w (.bool true)) := by
  obtain ⟨A0, c0, rfl, _⟩ := id h0
  obtain ⟨A1, c1, rfl, _⟩ := id h1
  obtain ⟨la, hla⟩ : ∃ la, ps.length = la := ⟨_, rfl⟩
  obtain ⟨lb, hlb⟩ : ∃ lb, qs.length = lb := ⟨_, rfl⟩
  rw [hla] at h0 ⊢
  rw [hlb] at h1 ⊢
  have HLA := hid hla
  have HLB := hid hlb
  have H0 := hid h0
  have H1 := hid h1
  have H3 := hid h3
  have HP := hid hp
  clear h0 h1 h3 hp hla hlb
  have AW := hid (fun W (hg : Grow w W) => (awake_any W).mono (fun e w' h => (⟨h.1, hg.trans h.2⟩ : Gives w (.bool true) e w')))
  obtain ⟨n, hn⟩ : ∃ n, S.size = n := ⟨_, rfl⟩
  have HS := hid (strB_self S)
  have hl : S.data.toList.length = n := by rw [← hn]; rfl
  generalize S.data.toList = l at *
  have HL := hid hl
  unfold maxLen at hS
  rw [hn] at hS
  clear hl
  by_cases b0 : 60 < la
  · have d0 : (60 : Int) < (la : Int) := by omega
    go_enter Tryz.func4, Tryz.ntmps4
    go_wp2_with fail
    refine (AW.out _ (Grow.refl _)).mono ?_
    rintro e w1 ⟨rfl, g1⟩
    go_wp2
    go_ret
    exact ⟨rfl, g1⟩
  have d0 : ¬ (60 : Int) < (la : Int) := by omega
  by_cases b1 : 60 < lb
  · have d1 : (60 : Int) < (lb : Int) := by omega
    go_enter Tryz.func4, Tryz.ntmps4
    go_wp2_with fail
    refine (AW.out _ (Grow.refl _)).mono ?_
    rintro e w1 ⟨rfl, g1⟩
    go_wp2
    go_ret
    exact ⟨rfl, g1⟩
  have d1 : ¬ (60 : Int) < (lb : Int) := by omega
  by_cases b2 : 400 < n
  · have d2 : (400 : Int) < (n : Int) := by omega
    go_enter Tryz.func4, Tryz.ntmps4
    go_wp2_with fail
    refine (AW.out _ (Grow.refl _)).mono ?_
    rintro e w1 ⟨rfl, g1⟩
    go_wp2
    go_ret
    exact ⟨rfl, g1⟩
  have d2 : ¬ (400 : Int) < (n : Int) := by omega
  go_enter Tryz.func4, Tryz.ntmps4
  go_wp2_with fail
  refine (NewSource_any _ _ _ H3.out).mono ?_
  rintro e wA ⟨g, rfl, gg, hs1, hg1⟩
  go_wp2_with fail
  refine (NatOf_any g 20 _ hs1 (by omega) (by omega)).mono ?_
  rintro e wB ⟨vB, zs, rfl, hz, hcz, hl20, hs2, hb2⟩
  go_wp2_with fail
  refine (NatOf_any g 41 _ hs2 (by omega) (by omega)).mono ?_
  rintro e wC ⟨vC, ys, rfl, hy, hcy, hl41, hs3, hb3⟩
  have gW : Grow w wC := (hb2.trans hb3).grow hg1 gg
  have NL := hid (NatsL.mk (H0.out.grow gW) (H1.out.grow gW) (hz.srcN hb3 hs2).1 hy.1 (by have := HLA.out; omega) (by have := HLB.out; omega) (by omega) (by omega))
  have gL : Grow w (wC.alloc (.cells #[.slice A0 la c0, .slice A1 lb c1, vB, vC] 24)) := gW.alloc _
  have hne2 := natErr_canon hcz (by omega)
  have HZ := hid (And.intro hcz (And.intro hl20 hne2))
  obtain ⟨AB, mB, rfl, _⟩ := hz.1
  obtain ⟨AC, mC, rfl, _⟩ := hy.1
  clear hs1 hg1 hs2 hb2 hs3 hb3 hz hy hcz hcy hl20 hl41 gW gg hne2
  go_wp2
  generalize hwL : wC.alloc (.cells #[.slice A0 la c0, .slice A1 lb c1, .slice AB zs.length mB, .slice AC ys.length mC] 24) = wL at *
  generalize hGL : wC.heap.size = G at *
  clear hwL hGL
  have GL := hid gL
  clear gL
  go_loopw [11] (fun iv wr => ∃ t : Nat, t ≤ 4 ∧ iv = .int .i64 (t : Int) ∧ Grow wL wr) (fun iv _ => 4 - (intOf iv).toNat)
  case atStart => exact ⟨0, Nat.zero_le _, rfl, Grow.refl _⟩
  case round =>
    obtain ⟨t, ht, rfl, hgr⟩ := hrel
    by_cases hlt : t < 4
    · have hti : (t : Int) < 4 := by omega
      obtain ⟨A, m, c, r0, r1, r2, r3⟩ := (NL.out.grow hgr) t hlt
      obtain ⟨ST, er, _, e1, e2, e3, e4⟩ := textsN (pick4 ps qs zs ys t)
      have T1 := hid e1
      have T2 := hid e2
      have C1 := hid e3
      have C2 := hid e4
      clear e1 e2 e3 e4
      have OPS := hid (fun xs => opsN (pick4 ps qs zs ys t) xs)
      generalize pick4 ps qs zs ys t = ft at r0 r3 T1 T2 C1 C2 OPS
      go_wp2_with fail
      refine (OwnNat_any _ ft wr r3 (by omega)).mono ?_
      rintro e w1 ⟨vo, rfl, ho, g1⟩
      have hoI := ho.is
      obtain ⟨Ao, mo, co, rfl⟩ := ho.slice_
      have q1 := g1.cell_some r2
      have HPr := hid (fun W (hg : Grow wr W) => HP.out.grow ((GL.out.trans hgr).trans hg))
      go_wp2_with fail
      refine (T1.out _ w1 hoI (HPr.out _ g1)).mono ?_
      rintro e w2 ⟨rfl, g2⟩
      have g12 := g1.trans g2
      have q2 := g12.cell_some r2
      go_wp2_with fail
      refine (T2.out _ w2 (r3.grow g12)).mono ?_
      rintro e w3 ⟨rfl, g3⟩
      have g13 := g12.trans g3
      have q3 := g13.cell_some r2
      have KO := hid (fun W (hg : Grow w3 W) => hoI.grow ((g2.trans g3).trans hg))
      have KR := hid (fun W (hg : Grow w3 W) => r3.grow (g13.trans hg))
      have CO := hid (fun n => C1.out _ (w3.drewN n) (KO.out _ ((Grow.refl _).drewN n)))
      have CR := hid (fun n => C2.out _ (w3.drewN n) (KR.out _ ((Grow.refl _).drewN n)))
      have ne1 : (er != er) = false := by simp
      have GR := hid (hgr.trans g13)
      clear hoI ho q1 q2 g2 g3 g12 g1 r3 T1 T2 C1 C2 HPr hgr g13
      go_wp2
      go_quiet ((first | (go_at_call 13; first | exact q_same (CO.out _) | exact q_same' (CO.out _)) | (go_at_call 14; first | exact q_same (CR.out _) | exact q_same' (CR.out _))))
      go_wp2
      go_loopw [17] (fun iv wi => ∃ s : Nat, s ≤ 4 ∧ iv = .int .i64 (s : Int) ∧ Grow w3 wi) (fun iv _ => 4 - (intOf iv).toNat)
      case atStart => exact ⟨0, Nat.zero_le _, rfl, (Grow.refl _).drewN _⟩
      case round =>
        obtain ⟨wi, rfl⟩ : ∃ x : World, x = wr := ⟨_, rfl⟩
        obtain ⟨s, hs, rfl, hgi⟩ := hrel
        by_cases hls : s < 4
        · have hsi : (s : Int) < 4 := by omega
          obtain ⟨B, m', c', s0, s1, s2, s3⟩ := (NL.out.grow (GR.out.trans hgi)) s hls
          obtain ⟨nS, eS, nP, eP, cm, e1, e2, e3, e4, e5, e6⟩ := OPS.out (pick4 ps qs zs ys s)
          have O1 := hid e1
          have O2 := hid e2
          have O3 := hid e3
          have O4 := hid e4
          have O5 := hid e5
          have O6 := hid e6
          clear e1 e2 e3 e4 e5 e6
          generalize pick4 ps qs zs ys s = fs at s0 s3 O1 O2 O3 O4 O5 O6
          have p1 := hgi.cell_some q3
          have KS := hid (fun W (hg : Grow wi W) => (⟨hg, hg.cell_some p1, hg.cell_some s2⟩ : Grow wi W ∧ W.cell? ⟨G, t, none⟩ = some (.slice A m c) ∧ W.cell? ⟨G, s, none⟩ = some (.slice B m' c')))
          have I1 := hid (fun W (hg : Grow wi W) => KO.out W (hgi.trans hg))
          have I2 := hid (fun W (hg : Grow wi W) => KR.out W (hgi.trans hg))
          have I3 := hid (fun W (hg : Grow wi W) => s3.grow hg)
          clear s3 s0
          go_wp2_with fail
          refine (O1.out _ _ wi (I1.out _ (Grow.refl _)) (I3.out _ (Grow.refl _))).mono ?_
          rintro e w4 ⟨X1, x1, y1, rfl, g4, k4⟩
          obtain ⟨_, a4, b4⟩ := KS.out w4 g4
          have K4 := hid (fun W (hg : Grow w4 W) => k4.grow hg)
          have KS4 := hid (fun W (hg : Grow w4 W) => (⟨hg, hg.cell_some a4, hg.cell_some b4⟩ : Grow w4 W ∧ W.cell? ⟨G, t, none⟩ = some (.slice A m c) ∧ W.cell? ⟨G, s, none⟩ = some (.slice B m' c')))
          clear k4 p1 s2 O1
          go_wp2
          go_region_held3 (fun W => Grow w4 W ∧ W.cell? ⟨G, t, none⟩ = some (.slice A m c) ∧ W.cell? ⟨G, s, none⟩ = some (.slice B m' c'))
            (exact KS4.out _ (by first | assumption | exact (Grow.refl _).drew | exact Grow.alloc (by assumption) _))
            ((go_at_call 16; have hS := (‹Grow w4 _ ∧ _›).1; refine (O2.out _ _ _ (I2.out _ (g4.trans hS)) (I3.out _ (g4.trans hS))).mono ?_; rintro e w5 ⟨X2, x2, y2, rfl, g5', k5⟩; have g5 := hS.trans g5'))
          obtain ⟨_, a5, b5⟩ := KS.out w5 (g4.trans g5)
          have h5 := g4.trans g5
          have K5 := hid (fun W (hg : Grow w5 W) => k5.grow hg)
          clear k5 g5' hS a4 b4 KS4 O2
          go_wp2_with fail
          refine (O3.out _ _ w5 (I1.out _ h5) (I3.out _ h5)).mono ?_
          rintro e w6 ⟨X3, x3, y3, rfl, g6, k6⟩
          have h6 := h5.trans g6
          obtain ⟨_, a6, b6⟩ := KS.out w6 h6
          have K6 := hid (fun W (hg : Grow w6 W) => k6.grow hg)
          have KS6 := hid (fun W (hg : Grow w6 W) => (⟨hg, hg.cell_some a6, hg.cell_some b6⟩ : Grow w6 W ∧ W.cell? ⟨G, t, none⟩ = some (.slice A m c) ∧ W.cell? ⟨G, s, none⟩ = some (.slice B m' c')))
          clear k6 a5 b5 O3
          go_wp2
          go_region_held3 (fun W => Grow w6 W ∧ W.cell? ⟨G, t, none⟩ = some (.slice A m c) ∧ W.cell? ⟨G, s, none⟩ = some (.slice B m' c'))
            (exact KS6.out _ (by first | assumption | exact (Grow.refl _).drew | exact Grow.alloc (by assumption) _))
            ((go_at_call 18; have hS := (‹Grow w6 _ ∧ _›).1; refine (O4.out _ _ _ (I2.out _ (h6.trans hS)) (I3.out _ (h6.trans hS))).mono ?_; rintro e w7 ⟨X4, x4, y4, rfl, g7', k7⟩; have g7 := hS.trans g7'))
          have h7 := h6.trans g7
          obtain ⟨_, a7, b7⟩ := KS.out w7 h7
          have KS7 := hid (fun W (hg : Grow w7 W) => (⟨hg, hg.cell_some a7, hg.cell_some b7⟩ : Grow w7 W ∧ W.cell? ⟨G, t, none⟩ = some (.slice A m c) ∧ W.cell? ⟨G, s, none⟩ = some (.slice B m' c')))
          have S1 := hid (fun W (hg : Grow w7 W) => SameNat_same _ _ nS W (K4.out W (((g5.trans g6).trans g7).trans hg)) (K5.out W ((g6.trans g7).trans hg)))
          have S2 := hid (fun W (hg : Grow w7 W) => SameNat_same _ _ nP W (K6.out W (g7.trans hg)) (k7.grow hg))
          have S3 := hid (fun W (hg : Grow w7 W) => SameNat_self _ _ ft W (I1.out W (h7.trans hg)) (I2.out W (h7.trans hg)))
          have S4 := hid (fun W (hg : Grow w7 W) => O5.out _ _ W (I1.out W (h7.trans hg)) (I3.out W (h7.trans hg)))
          have S5 := hid (fun W (hg : Grow w7 W) => O6.out _ _ W (I2.out W (h7.trans hg)) (I3.out W (h7.trans hg)))
          have H7 := hid (hgi.trans h7)
          clear k7 g7' hS a6 b6 KS6 O4 O5 O6 K4 K5 K6 I1 I2 I3 KS h5 h6 h7 g4 g5 g6 g7 hgi q3
          go_wp2
          go_region_held3 (fun W => Grow w7 W ∧ W.cell? ⟨G, t, none⟩ = some (.slice A m c) ∧ W.cell? ⟨G, s, none⟩ = some (.slice B m' c'))
            (exact KS7.out _ (by first | assumption | exact (Grow.refl _).drew | exact (Grow.refl _).drewN _ | exact Grow.drewN (by assumption) _ | exact Grow.alloc (by assumption) _))
            (first
              | (go_at_call_of 10 (Value.slice X1 x1 y1); have hS := (‹Grow w7 _ ∧ _›).1; refine (S1.out _ hS).mono ?_; rintro e wA ⟨rfl, nA, rfl⟩; have hkA := hS.drewN nA)
              | (go_at_call_of 10 (Value.slice X3 x3 y3); have hS := (‹Grow w7 _ ∧ _›).1; refine (S2.out _ hS).mono ?_; rintro e wB ⟨rfl, nB, rfl⟩; have hkB := hS.drewN nB)
              | (go_at_call_of 10 (Value.slice Ao mo co); have hS := (‹Grow w7 _ ∧ _›).1; refine (S3.out _ hS).mono ?_; rintro e wC ⟨rfl, nC, rfl⟩; have hkC := hS.drewN nC)
              | (go_at_call 19; have hS := (‹Grow w7 _ ∧ _›).1; refine (S4.out _ hS).mono ?_; rintro e wD ⟨rfl, gD⟩; have hkD := hS.trans gD)
              | (go_at_call 20; have hS := (‹Grow w7 _ ∧ _›).1; refine (S5.out _ hS).mono ?_; rintro e wE ⟨rfl, gE⟩; have hkE := hS.trans gE))
          all_goals
            go_wp2
            exact ⟨⟨s + 1, by omega, by go_num, H7.out.trans hkC⟩, by simp only [intOf]; omega⟩
        · go_wp2
          exact ⟨⟨t + 1, by omega, rfl, GR.out.trans hgi⟩, by simp only [intOf]; omega⟩
    · have hti : ¬ (t : Int) < 4 := by omega
      obtain ⟨ST, er, hST, _, e2, _, _⟩ := textsN zs
      obtain rfl := hST HZ.out.2.2
      have T2 := hid e2
      have htl : (textL zs).length ≤ 1000 := by
        unfold textL
        split
        · simp
        · have := txt_len HZ.out.1.1; have := HZ.out.2.1; omega
      obtain ⟨A, m, c, r0, r1, r2, r3⟩ := (NL.out.grow hgr) 2 (by omega)
      have R3 := hid (show IsInts wr (.slice A m c) zs from r3)
      clear r3 r0 e2 hST
      generalize textL zs = tz at *
      have hS2 := HS.out
      subst hS2
      have hadd := add_strB tz l (by have := HL.out; omega)
      have GW := hid (GL.out.trans hgr)
      clear hgr
      go_wp2_with fail
      refine (T2.out _ wr R3.out).mono ?_
      rintro e w1 ⟨rfl, g1⟩
      have TL := hid (TextsL.mk (w := w1) (a := l) (b := tz) (c := tz ++ l) (by have := HL.out; omega) (by omega) (by rw [List.length_append]; have := HL.out; omega))
      have GT := hid ((GW.out.trans g1).alloc (.cells #[.string (strB l), .string (strB tz), .string (strB (tz ++ l))] 9))
      clear g1 T2 R3
      go_wp2
      generalize w1.alloc (.cells #[.string (strB l), .string (strB tz), .string (strB (tz ++ l))] 9) = wT at *
      generalize w1.heap.size = H at *
      go_loopw [29] (fun iv wx => ∃ u : Nat, u ≤ 3 ∧ iv = .int .i64 (u : Int) ∧ Grow wT wx) (fun iv _ => 3 - (intOf iv).toNat)
      case atStart => exact ⟨0, Nat.zero_le _, rfl, Grow.refl _⟩
      case round =>
        obtain ⟨wx, rfl⟩ : ∃ x : World, x = wr := ⟨_, rfl⟩
        obtain ⟨u, hu, rfl, hgx⟩ := hrel
        by_cases hlu : u < 3
        · have hui : (u : Int) < 3 := by omega
          obtain ⟨tx, t1, t2⟩ := (TL.out.grow hgx) u hlu
          obtain ⟨nn, ee, e1, e2⟩ := parsesN tx t1
          have P1 := hid e1
          have P2 := hid e2
          clear e1 e2 t1
          generalize strB tx = TX at *
          go_wp2_with fail
          refine (P1.out _).mono ?_
          rintro e w2 ⟨X1, x1, y1, rfl, g2, k2⟩
          have q2 := g2.cell_some t2
          have K2 := hid k2
          clear k2
          go_wp2_with fail
          refine (P2.out _).mono ?_
          rintro e w3 ⟨X2, x2, y2, rfl, g3, k3⟩
          have SN := hid (SameNat_same _ _ nn w3 (K2.out.grow g3) k3)
          clear k3 K2 P1 P2
          go_wp2_with fail
          refine SN.out.mono ?_
          rintro e w4 ⟨rfl, n4, rfl⟩
          go_wp2
          exact ⟨⟨u + 1, by omega, rfl, ((hgx.trans g2).trans g3).drewN n4⟩, by simp only [intOf]; omega⟩
        · have hui : ¬ (u : Int) < 3 := by omega
          go_wp2_with fail
          refine (AW.out _ (GT.out.trans hgx)).mono ?_
          rintro e w8 ⟨rfl, g8⟩
          go_wp2
          go_ret
          exact ⟨rfl, g8⟩
end Go.Proofs.YtomgilkchlediaaGreatDoor
