/-
  The walk of the law ChanceWays.
-/
import Derived.Test.YtgphdaipgodjgaaWaits
import Derived.Test.YtgphdaipgodjgaaRacingE
import Derived.Test.YtgphdaipgodjgaaRaceSum
namespace Go.Proofs.Ytgphdaipgodjgaa
open Go.RowKit

theorem Racing_good (v1 v2 : Value) (u : List Int) (ws : List (List Int)) (F D : Nat) (w : World) (h1 : IsInts w v1 u) (h2 : IsRowsI w v2 ws) (he : unErr u = 0) (hk : ∀ l ∈ ws, risErr u.length (-1) l = 0) (h4 : ws.length ≤ 4) (hF : F < ws.length) (hD : (D : Int) ≤ sumI u) :
    Calls Try.prog 41 #[v1, v2, .int .i64 (F : Int), .int .i64 (D : Int)] w (RaceRes w ws.length (raceF u ws F D) (raceN u ws D) (raceA u ws) 0) := by
  have h := Racing_any v1 v2 u ws F D w h1 h2
  have e : raceErr u ws F D = 0 := by
    unfold raceErr
    rw [if_neg (by omega), if_neg (by omega), if_neg (by omega), if_neg (by have := ok_waitErr hk; omega), if_neg (by omega)]
  unfold RaceOf at h
  rw [e, if_pos rfl, if_pos rfl, if_pos rfl] at h
  exact h
theorem cmpI_ge {a b : Int} (h : b ≤ a) : 0 ≤ cmpI a b := by
  unfold cmpI
  rw [if_neg (by omega)]
  split <;> omega
/-- A pointer to a race. -/
def RaceBox (w : World) (P n : Nat) (f : Nat → Int) (nn aa : Int) : Prop :=
  ∃ (A : Option Addr) (c : Nat) (B : Option Addr) (m d : Nat) (C : Option Addr) (k e : Nat), w.cell? ⟨P, 0, none⟩ = some (.slice A n c) ∧ w.cell? ⟨P, 1, none⟩ = some (.slice B m d) ∧ w.cell? ⟨P, 2, none⟩ = some (.slice C k e) ∧ NatsV w (.slice A n c) n f ∧ IsNatF w (.slice B m d) nn ∧ IsNatF w (.slice C k e) aa
theorem RaceBox.grow {w w' : World} {P n : Nat} {f : Nat → Int} {nn aa : Int} (h : RaceBox w P n f nn aa) (g : Grow w w') : RaceBox w' P n f nn aa := by
  obtain ⟨A, c, B, m, d, C, k, e, h1, h2, h3, h4, h5, h6⟩ := h
  exact ⟨A, c, B, m, d, C, k, e, g.cell_some h1, g.cell_some h2, g.cell_some h3, h4.grow g, h5.grow g, h6.grow g⟩
theorem raceBox_new {w : World} {A B C : Option Addr} {n c m d k e : Nat} {f : Nat → Int} {nn aa : Int} (h1 : NatsV w (.slice A n c) n f) (h2 : IsNatF w (.slice B m d) nn) (h3 : IsNatF w (.slice C k e) aa) : RaceBox (w.alloc (.cells #[.slice A n c, .slice B m d, .slice C k e] 60)) w.heap.size n f nn aa := by
  have b : Blk (w.alloc (.cells #[.slice A n c, .slice B m d, .slice C k e] 60)) w.heap.size 60 [.slice A n c, .slice B m d, .slice C k e] := Blk.new_at rfl
  exact ⟨A, c, B, m, d, C, k, e, b.cell 0, b.cell 1, b.cell 2, h1.grow ((Grow.refl _).alloc _), h2.grow ((Grow.refl _).alloc _), h3.grow ((Grow.refl _).alloc _)⟩

set_option maxRecDepth 100000 in
set_option maxHeartbeats 16000000 in
theorem walkChanceWays (v : Value) (ns : List Int) (f0 d0 : Int) (w : World) (h : IsInts w v ns) (_hz : ∀ z ∈ ns, (Lit.int .i64 z).wf = true) (wf : (Lit.int .i64 f0).wf = true) (wd : (Lit.int .i64 d0).wf = true) :
    Calls Try.prog 11 #[v, .int .i64 f0, .int .i64 d0] w (Gives w (.bool true)) := by
  obtain ⟨fa, fb⟩ := wf_range wf
  obtain ⟨da, db⟩ := wf_range wd
  clear wf wd _hz
  go_enter Try.func11, Try.ntmps11
  go_wp2_with fail
  refine (NewSource_any _ _ _ h).mono ?_
  rintro e wA ⟨g, rfl, gg, hs1, hg1⟩
  clear h
  go_wp2_with fail
  refine (Range_any g 1 9 _ hs1 (by omega) (by omega) (by omega)).mono ?_
  rintro e wB ⟨K, rfl, k0, k1, hs2, hb2⟩
  obtain ⟨K, rfl⟩ := Int.eq_ofNat_of_zero_le (show 0 ≤ K by omega)
  have hg2 := hb2.grow hg1 gg
  clear hs1 hg1 hb2
  go_wp2_with fail
  refine (UnseenOf_any g K 24 _ hs2 (by omega) (by omega) (by omega)).mono ?_
  rintro e wC ⟨G, zs, rfl, bG, hG, hlK, hzw, hsum, hs3, hb3⟩
  have hg3 := hb3.grow hg2 gg
  have hGg : G ≠ g := by have := hs2.lt; omega
  have hzl : zs.length ≤ 9 := by omega
  have hz1 : 1 ≤ zs.length := by omega
  have HZ := hid hzw
  have HU := hid (ok_unErr (by omega) (by omega) hzw)
  obtain ⟨M, hM⟩ := Int.eq_ofNat_of_zero_le (show 0 ≤ sumI zs by have := hzw.sum; omega)
  have hM24 : M ≤ 24 := by omega
  have HM := hid hM
  clear hs2 hg2 hb3 hG hlK hsum hzw k0 k1 hM
  go_wp2_with fail
  refine (Range_any g 1 4 _ hs3 (by omega) (by omega) (by omega)).mono ?_
  rintro e wD ⟨S, rfl, s0, s1, hs4, hb4⟩
  obtain ⟨S, rfl⟩ := Int.eq_ofNat_of_zero_le (show 0 ≤ S by omega)
  have bG4 := hb4.blk bG hGg
  have hg4 := hb4.grow hg3 gg
  clear bG hs3 hg3 hb4
  go_wp2_with fail
  refine (WaitsOf_any g S zs.length _ hs4 (by omega) (by omega)).mono ?_
  rintro e wE ⟨vW, ws, rfl, iW, hwl, hris, hs5, hb5⟩
  obtain rfl : S = ws.length := by omega
  have bG5 := hb5.blk bG4 hGg
  have hg5 := hb5.grow hg4 gg
  obtain ⟨WA, WC, rfl, _, _⟩ := iW.open_
  have HW := hid iW
  have HRI := hid hris
  have IG := hid (bG5.is (zs := zs) (by unfold maxLen; omega))
  clear bG4 hs4 hg4 hb5 hwl hs5 bG5 iW hris
  have TOT := hid (fun W (hg : Grow wE W) => (by
    have h := ltotal_any _ zs W (IG.out.grow hg) (fun z hz => by have := HZ.out z hz; omega) (by omega)
    rwa [HM.out] at h : Calls Try.prog 39 #[.slice (some ⟨G, 0, none⟩) zs.length zs.length] W (Same W (.int .i64 (M : Int)))))
  have gE : Grow wE wE := Grow.refl _
  go_wp2_with fail
  refine (Into_any f0 (ws.length : Int) _ fa fb (by omega) (by omega)).mono ?_
  rintro e w4 ⟨rfl, rfl⟩
  have e0 := Int.emod_nonneg f0 (show (ws.length : Int) ≠ 0 by omega)
  have e1 := Int.emod_lt_of_pos f0 (show 0 < (ws.length : Int) by omega)
  generalize f0 % (ws.length : Int) = F at *
  obtain ⟨F, rfl⟩ := Int.eq_ofNat_of_zero_le e0
  go_wp2_with fail
  refine (TOT.out _ gE).mono ?_
  rintro e w4 ⟨rfl, rfl⟩
  go_wp2_with fail
  refine (Into_any d0 ((M : Int) + 1) _ da db (by omega) (by omega)).mono ?_
  rintro e w4 ⟨rfl, rfl⟩
  have e2 := Int.emod_nonneg d0 (show (M : Int) + 1 ≠ 0 by omega)
  have e3 := Int.emod_lt_of_pos d0 (show 0 < (M : Int) + 1 by omega)
  generalize d0 % ((M : Int) + 1) = D at *
  obtain ⟨D, rfl⟩ := Int.eq_ofNat_of_zero_le e2
  have hFl : F < ws.length := by omega
  have hDM : D ≤ M := by omega
  clear e0 e1 e2 e3 fa fb da db
  have RG := hid (fun (T : Nat) W (hg : Grow wE W) (hT : T ≤ M) => Racing_good _ _ zs ws F T W (IG.out.grow hg) (HW.out.grow hg) HU.out HRI.out (by omega) hFl (by rw [HM.out]; omega))
  have BD := hid (fun (T : Nat) (hT : T ≤ M) => race_bounds (ws := ws) (D := T) HZ.out HM.out (by omega) hT)
  have NN := hid (fun (T s : Nat) => raceF_nonneg (ws := ws) (F := F) (D := T) HZ.out (by omega) HM.out (by omega) s)
  have ALL := hid (race_all (ws := ws) (F := F) (D := D) HZ.out HM.out hDM)
  have MORE := hid (fun (hlt : D < M) => race_more (ws := ws) (F := F) (D := D) HZ.out (by omega) HM.out (by omega) hlt)
  have NONE := hid (race_none zs ws)
  go_wp2_with fail
  refine (RG.out D _ gE hDM).mono ?_
  rintro e w5 ⟨v5, rfl, k5, g5⟩
  obtain ⟨A1, c1, B1, m1, d1, C1, k1, e1, rfl, x1, x2, x3⟩ := k5.open_
  have y0 : Blk (w5.alloc (.cells #[.slice A1 ws.length c1, .slice B1 m1 d1, .slice C1 k1 e1] 60)) w5.heap.size 60 [.slice A1 ws.length c1, .slice B1 m1 d1, .slice C1 k1 e1] := Blk.new_at rfl
  have gn := (Grow.refl w5).alloc (.cells #[.slice A1 ws.length c1, .slice B1 m1 d1, .slice C1 k1 e1] 60)
  have gx := g5.trans gn
  have q0 := y0.cell 0
  have q1 := y0.cell 1
  have q2 := y0.cell 2
  simp only [List.getElem?_cons_zero, List.getElem?_cons_succ] at q0 q1 q2
  have Q := hid (fun W (hg : Grow (w5.alloc (.cells #[.slice A1 ws.length c1, .slice B1 m1 d1, .slice C1 k1 e1] 60)) W) => And.intro (hg.cell_some q0) (And.intro (hg.cell_some q1) (And.intro (hg.cell_some q2) (And.intro ((x1.grow gn).grow hg) (And.intro ((x2.grow gn).grow hg) ((x3.grow gn).grow hg))))))
  have hl1 : ((ws.length : Int) != (ws.length : Int)) = false := by simp
  have hl2 : (ws.length != ws.length) = false := by simp
  clear k5 x1 x2 x3 y0 gn g5 q2
  go_wp2
  generalize w5.alloc (.cells #[.slice A1 ws.length c1, .slice B1 m1 d1, .slice C1 k1 e1] 60) = w6 at *
  generalize w5.heap.size = P1 at *
  clear q0 q1
  have HG := hid hg5
  have HX := hid gx
  clear hg5 gx
  go_loopw [13, 14] (fun v i wr => ∃ (k : Nat) (X : Option Addr) (m c : Nat), k ≤ ws.length ∧ i = .int .i64 (k : Int) ∧ v = .slice X m c ∧ IsNat wr (.slice X m c) (raceN zs ws D + sumF (raceF zs ws F D) k) ∧ Grow w6 wr) (fun _ i _ => ws.length - (intOf i).toNat)
  case atStart => exact ⟨0, _, _, _, Nat.zero_le _, rfl, rfl, by simpa [sumF] using (Q.out _ (Grow.refl _)).2.2.2.2.1.1, Grow.refl _⟩
  case round =>
    obtain ⟨k, X, m, c, hk, rfl, rfl, kv, hg⟩ := hrel
    by_cases hlt : k < ws.length
    · obtain ⟨p0, p1, p2, n1, n2, n3⟩ := Q.out _ hg
      obtain ⟨ad, E, l, e, rfl, _, hx, ke⟩ := n1.at_ hlt
      have i0 : (0 : Int) ≤ (k : Int) := by omega
      have i1 : (k : Int) < (ws.length : Int) := by omega
      have b1 := (BD.out D hDM).2.2
      have b2 := (BD.out D hDM).1
      have b3 := sumF_mono (NN.out D) hk
      have b4 := sumF_one (NN.out D) hlt
      have b5 := sumF_mono (NN.out D) (show k + 1 ≤ ws.length by omega)
      have b6 := sumF_nonneg (NN.out D) k
      have b7 := NN.out D k
      have b8 := ALL.out
      have SM := hid (Sum_nat _ _ _ _ wr kv ke.1 (by omega) (by omega) (by simp only [sumF] at b5; omega))
      clear b1 b2 b3 b4 b5 b6 b7 b8 kv ke n1 n2 n3 p1 p2
      go_wp2_with fail
      refine SM.out.mono ?_
      rintro e w7 ⟨v7, rfl, k7, g7⟩
      obtain ⟨X7, m7, c7, rfl⟩ := k7.open_
      go_wp2
      exact ⟨⟨k + 1, X7, m7, c7, by omega, by go_num, rfl, by rw [sumF, ← Int.add_assoc]; exact k7, hg.trans g7⟩, by simp only [intOf]; omega⟩
    · obtain rfl : k = ws.length := by omega
      rw [ALL.out] at kv
      obtain ⟨p0, p1, p2, n1, n2, n3⟩ := Q.out _ hg
      have SN := hid (SameNat_same _ _ (raceA zs ws) wr kv n3.1)
      clear kv n1 n2 n3 p0 p1
      go_wp2_with fail
      refine SN.out.mono ?_
      rintro e w7 ⟨rfl, x7, rfl⟩
      have hg7 := hg.drewN x7
      clear hg p2 SN
      generalize wr.drewN x7 = w7 at *
      go_wp2_with fail
      refine (TOT.out _ (HX.out.trans hg7)).mono ?_
      rintro e w8 ⟨rfl, rfl⟩
      have FIN := hid (show ∀ W, Grow w7 W → Calls Try.prog 41 #[.slice (some ⟨G, 0, none⟩) zs.length zs.length, .slice WA ws.length WC, .int .i64 (F : Int), .int .i64 0] W (RaceRes W ws.length (raceF zs ws F (0 : Nat)) (raceN zs ws (0 : Nat)) (raceA zs ws) 0) from fun W hg => RG.out 0 W (HX.out.trans (hg7.trans hg)) (by omega))
      by_cases hlt : D < M
      · have i1 : (D : Int) < (M : Int) := by omega
        obtain ⟨mo1, mo2⟩ := MORE.out hlt
        have MO2 := hid mo2
        have i2 : IntKind.i64.wrap ((D : Int) + 1) = (D : Int) + 1 := IntWalk.i64_in _ (by omega)
        have R2 : Calls Try.prog 41 #[.slice (some ⟨G, 0, none⟩) zs.length zs.length, .slice WA ws.length WC, .int .i64 (F : Int), .int .i64 ((D : Int) + 1)] w7 (RaceRes w7 ws.length (raceF zs ws F (D + 1 : Nat)) (raceN zs ws (D + 1 : Nat)) (raceA zs ws) 0) := RG.out (D + 1) w7 (HX.out.trans hg7) (by omega)
        have HR2 := hid R2
        have L1 := (BD.out D hDM)
        have L2 := (BD.out (D + 1) (by omega))
        have ZL := hid (And.intro (show raceN zs ws D < radix 40 by omega) (show raceN zs ws (D + 1 : Nat) < radix 40 by omega))
        have hcm := cmpI_le mo1
        have FL := hid (fun (s : Nat) (hs : s < ws.length) => (by
          have b1 := L1
          have b4 := sumF_one (NN.out D) hs
          have b5 := sumF_one (NN.out (D + 1)) hs
          have b8 := ALL.out
          have b9 := race_all (ws := ws) (F := F) (D := D + 1) HZ.out HM.out (by omega)
          have b10 := L2
          exact ⟨by omega, by omega⟩ : raceF zs ws F D s < radix 40 ∧ raceF zs ws F (D + 1 : Nat) s < radix 40))
        clear R2 i2 L1 L2 mo1 mo2
        go_wp2_with fail
        refine HR2.out.mono ?_
        rintro e w9 ⟨v9, rfl, k9, g9⟩
        obtain ⟨A2, c2, B2, m2, d2, C2, k2, e2, rfl, x1, x2, x3⟩ := k9.open_
        have y0 : Blk (w9.alloc (.cells #[.slice A2 ws.length c2, .slice B2 m2 d2, .slice C2 k2 e2] 60)) w9.heap.size 60 [.slice A2 ws.length c2, .slice B2 m2 d2, .slice C2 k2 e2] := Blk.new_at rfl
        have gn := (Grow.refl w9).alloc (.cells #[.slice A2 ws.length c2, .slice B2 m2 d2, .slice C2 k2 e2] 60)
        have gx := g9.trans gn
        obtain ⟨p0, p1, p2, n1, n2, n3⟩ := Q.out _ (hg7.trans gx)
        have q0 := y0.cell 0
        have q1 := y0.cell 1
        have q2 := y0.cell 2
        simp only [List.getElem?_cons_zero, List.getElem?_cons_succ] at q0 q1 q2
        have CM := hid (Compare_nat _ _ (raceN zs ws (D + 1 : Nat)) (raceN zs ws D) _ (x2.grow gn).1 n2.1 ZL.out.2 ZL.out.1)
        have N1 := hid n1
        have N2 := hid (x1.grow gn)
        have SN2 := hid (fun W (hg : Grow (w9.alloc (.cells #[.slice A2 ws.length c2, .slice B2 m2 d2, .slice C2 k2 e2] 60)) W) => SameNat_same _ _ (raceA zs ws) W ((x3.grow gn).grow hg).1 (n3.grow hg).1)
        generalize cmpI (raceN zs ws (D + 1 : Nat)) (raceN zs ws D) = z at *
        clear k9 x1 x2 x3 y0 gn g9 n1 n2 n3
        go_wp2_with fail
        generalize w9.alloc (.cells #[.slice A2 ws.length c2, .slice B2 m2 d2, .slice C2 k2 e2] 60) = w10 at *
        generalize w9.heap.size = P2 at *
        refine CM.out.mono ?_
        rintro e w11 ⟨rfl, g11⟩
        have q0 := g11.cell_some q0
        have q2 := g11.cell_some q2
        have p0 := g11.cell_some p0
        have p2 := g11.cell_some p2
        go_wp2_with fail
        refine (SN2.out _ g11).mono ?_
        rintro e w12 ⟨rfl, x12, rfl⟩
        have g12 := g11.drewN x12
        have q0 : (w11.drewN x12).cell? ⟨P2, 0, none⟩ = _ := q0
        have p0 : (w11.drewN x12).cell? ⟨P1, 0, none⟩ = _ := p0
        have N1' := hid (fun W (hg : Grow (w11.drewN x12) W) => N1.out.grow (g12.trans hg))
        have N2' := hid (fun W (hg : Grow (w11.drewN x12) W) => N2.out.grow (g12.trans hg))
        have GG := hid (hg7.trans (gx.trans g12))
        have FIN2 := hid (fun W (hg : Grow (w11.drewN x12) W) => FIN.out W (gx.trans (g12.trans hg)))
        clear q1 q2 p1 p2 g11 g12 gx CM SN2 N1 N2 hg7 FIN
        generalize w11.drewN x12 = w12 at *
        go_wp2
        clear hcm
        go_loopw [19] (fun i wr => ∃ k : Nat, k ≤ ws.length ∧ i = .int .i64 (k : Int) ∧ Grow w12 wr) (fun i _ => ws.length - (intOf i).toNat)
        case atStart => exact ⟨0, Nat.zero_le _, rfl, Grow.refl _⟩
        case round =>
          obtain ⟨k, hk, rfl, hg⟩ := hrel
          by_cases hlk : k < ws.length
          · obtain ⟨ad, E, l, e, rfl, _, hx, ke⟩ := (N1'.out _ hg).at_ hlk
            obtain ⟨ad2, E2, l2, e2', rfl, _, hy, ke2⟩ := (N2'.out _ hg).at_ hlk
            have i3 : (0 : Int) ≤ (k : Int) := by omega
            have i4 : (k : Int) < (ws.length : Int) := by omega
            have hq0 := hg.cell_some q0
            have hp0 := hg.cell_some p0
            have CP := hid (fun W (hg : Grow wr W) => Compare_nat _ _ _ _ W (ke2.grow hg).1 (ke.grow hg).1 (FL.out k hlk).2 (FL.out k hlk).1)
            have hc := cmpI_ge (MO2.out k)
            generalize cmpI (raceF zs ws F (D + 1 : Nat) k) (raceF zs ws F D k) = y at *
            have KS := hid (fun W (hg : Grow wr W) => (⟨hg, hg.cell_some hq0, hg.cell_some hp0, hg.cell_some hy, hg.cell_some hx⟩ : Grow wr W ∧ W.cell? ⟨P2, 0, none⟩ = some (.slice (some ad2) ws.length c2) ∧ W.cell? ⟨P1, 0, none⟩ = some (.slice (some ad) ws.length c1) ∧ W.cell? (ad2.add k) = some (.slice E2 l2 e2') ∧ W.cell? (ad.add k) = some (.slice E l e)))
            clear ke ke2 hq0 hp0 hx hy
            go_wp2
            go_region_held3 (fun W => Grow wr W ∧ W.cell? ⟨P2, 0, none⟩ = some (.slice (some ad2) ws.length c2) ∧ W.cell? ⟨P1, 0, none⟩ = some (.slice (some ad) ws.length c1) ∧ W.cell? (ad2.add k) = some (.slice E2 l2 e2') ∧ W.cell? (ad.add k) = some (.slice E l e))
              (exact KS.out _ (by first | assumption | exact (Grow.refl _).drew))
              (first
                | (go_at_call 38; have hS := (‹Grow wr _ ∧ _›).1; refine (CP.out _ hS).mono ?_; rintro e wz ⟨rfl, gz⟩; have hkz := hS.trans gz))
            all_goals
              go_wp2
              exact ⟨⟨k + 1, by omega, by go_num, hg.trans hkz⟩, by simp only [intOf]; omega⟩
          · have FI := hid (FIN2.out _ hg)
            go_wp2_with fail
            refine FI.out.mono ?_
            rintro e w13 ⟨v13, rfl, k13, g13⟩
            obtain ⟨A3, c3, B3, m3, d3, C3, k3, e3, rfl, x1, x2, x3⟩ := k13.open_
            have y0 : Blk (w13.alloc (.cells #[.slice A3 ws.length c3, .slice B3 m3 d3, .slice C3 k3 e3] 60)) w13.heap.size 60 [.slice A3 ws.length c3, .slice B3 m3 d3, .slice C3 k3 e3] := Blk.new_at rfl
            have gn := (Grow.refl w13).alloc (.cells #[.slice A3 ws.length c3, .slice B3 m3 d3, .slice C3 k3 e3] 60)
            have r1 := y0.cell 1
            have r2 := y0.cell 2
            simp only [List.getElem?_cons_zero, List.getElem?_cons_succ] at r1 r2
            have SNN := hid (SameNat_same _ _ (raceA zs ws) _ (by rw [← NONE.out]; exact (x2.grow gn).1) (x3.grow gn).1)
            have GT := hid ((GG.out.trans hg).trans (g13.trans gn))
            clear k13 x1 x2 x3 y0 gn g13
            go_wp2_with fail
            refine SNN.out.mono ?_
            rintro e w14 ⟨rfl, x14, rfl⟩
            go_wp2_with fail
            refine (awake_any _).mono ?_
            rintro e w15 ⟨rfl, g15⟩
            go_wp2
            go_ret
            exact ⟨rfl, HG.out.trans (HX.out.trans ((GT.out.drewN x14).trans g15))⟩
      · have FI := hid (FIN.out _ (Grow.refl _))
        clear FIN
        go_wp2_with fail
        refine FI.out.mono ?_
        rintro e w13 ⟨v13, rfl, k13, g13⟩
        obtain ⟨A3, c3, B3, m3, d3, C3, k3, e3, rfl, x1, x2, x3⟩ := k13.open_
        have y0 : Blk (w13.alloc (.cells #[.slice A3 ws.length c3, .slice B3 m3 d3, .slice C3 k3 e3] 60)) w13.heap.size 60 [.slice A3 ws.length c3, .slice B3 m3 d3, .slice C3 k3 e3] := Blk.new_at rfl
        have gn := (Grow.refl w13).alloc (.cells #[.slice A3 ws.length c3, .slice B3 m3 d3, .slice C3 k3 e3] 60)
        have r1 := y0.cell 1
        have r2 := y0.cell 2
        simp only [List.getElem?_cons_zero, List.getElem?_cons_succ] at r1 r2
        have SNN := hid (SameNat_same _ _ (raceA zs ws) _ (by rw [← NONE.out]; exact (x2.grow gn).1) (x3.grow gn).1)
        have GT := hid (hg7.trans (g13.trans gn))
        clear k13 x1 x2 x3 y0 gn g13
        go_wp2_with fail
        refine SNN.out.mono ?_
        rintro e w14 ⟨rfl, x14, rfl⟩
        go_wp2_with fail
        refine (awake_any _).mono ?_
        rintro e w15 ⟨rfl, g15⟩
        go_wp2
        go_ret
        exact ⟨rfl, HG.out.trans (HX.out.trans ((GT.out.drewN x14).trans g15))⟩
end Go.Proofs.Ytgphdaipgodjgaa
