/-
  The walk of the law ChanceParts.
-/
import Derived.Test.YtgphdaipgodjgaaWRing
import Derived.Test.YtgphdaipgodjgaaDrawsE
import Derived.Test.YtgphdaipgodjgaaRefU
import Derived.Test.YtgphdaipgodjgaaApp
import Derived.Test.YtgphdaipgodjgaaParts
namespace Go.Proofs.Ytgphdaipgodjgaa
open Go.RowKit

theorem Draws_good (v1 v2 : Value) (u x : List Int) (N : Nat) (w : World) (h1 : IsInts w v1 u) (h2 : IsInts w v2 x) (he : unErr u = 0) (hx : Within 0 4 x) (hl : x.length = u.length) (hn : (N : Int) ≤ sumI u) :
    Calls Try.prog 31 #[v1, v2, .int .i64 (N : Int)] w (OddsErr w (wayW u x u.length N) (chooseI (sumI u) N) 0) := by
  have h := Draws_any v1 v2 u x N w h1 h2
  have e : drawErr u x N = 0 := by
    unfold drawErr
    rw [if_neg (by omega), if_neg (by omega), if_neg]
    rw [any_outB hx]
    simp; omega
  unfold DrawRes at h
  rw [e, if_pos rfl, if_pos rfl, Int.toNat_natCast] at h
  exact h
theorem Any_good (v1 v2 : Value) (u ks : List Int) (N : Nat) (w : World) (h1 : IsInts w v1 u) (h2 : IsInts w v2 ks) (he : unErr u = 0) (hk : risErr u.length (-1) ks = 0) (hn : (N : Int) ≤ sumI u) :
    Calls Try.prog 33 #[v1, v2, .int .i64 (N : Int)] w (OddsErr w (anyWays (sumI u) (sumAt u ks) N) (chooseI (sumI u) N) 0) := by
  have h := Any_any v1 v2 u ks N w h1 h2
  have e : anyErr u ks N = 0 := by
    unfold anyErr
    rw [if_pos he, if_pos hk, if_neg (by omega)]
  unfold AnyRes at h
  rw [e, if_pos rfl, if_pos rfl] at h
  exact h
theorem cmpI_le {a b : Int} (h : a ≤ b) : cmpI a b ≤ 0 := by
  unfold cmpI
  split
  · omega
  · rw [if_neg (by omega)]; omega
theorem Own.len' {w0 w : World} {v : Value} {os : List Int} {g n c : Nat} (h : Own w0 w v os) (e : v = .slice (some ⟨g, 0, none⟩) n c) : n = os.length := by
  obtain ⟨A, d, e', _⟩ := h.is
  rw [e] at e'
  injection e'

theorem own_open {w0 w : World} {v : Value} {xs : List Int} (ho : Own w0 w v ([] ++ xs)) (h : 0 < xs.length) : ∃ g cap, v = .slice (some ⟨g, 0, none⟩) xs.length cap ∧ w0.heap.size ≤ g ∧ Own w0 w (.slice (some ⟨g, 0, none⟩) xs.length cap) xs := by
  rw [List.nil_append] at ho
  obtain ⟨g, cap, rfl, h1, _, _⟩ := ho.form h
  exact ⟨g, cap, rfl, h1, ho⟩

theorem ints_open {w : World} {v : Value} {zs : List Int} (h : IsInts w v zs) : ∃ A m c, v = .slice A m c := by
  obtain ⟨A, c, rfl, _⟩ := h
  exact ⟨A, _, c, rfl⟩
theorem IsInts.at_ {w : World} {A : Option Addr} {m c : Nat} {zs : List Int} (h : IsInts w (.slice A m c) zs) {k : Nat} (hk : k < zs.length) : ∃ ad, A = some ad ∧ ad.block < w.heap.size ∧ w.cell? (ad.add k) = some (.int .i64 zs[k]) := by
  obtain ⟨A', c', e, _, _, hr⟩ := h
  injection e with e1 e2 e3
  subst e1
  exact hr.int hk

set_option maxRecDepth 100000 in
set_option maxHeartbeats 8000000 in
theorem walkChanceParts (v : Value) (ns : List Int) (at0 n0 : Int) (w : World) (h : IsInts w v ns) (_hz : ∀ z ∈ ns, (Lit.int .i64 z).wf = true) (wa : (Lit.int .i64 at0).wf = true) (wn : (Lit.int .i64 n0).wf = true) :
    Calls Try.prog 8 #[v, .int .i64 at0, .int .i64 n0] w (Gives w (.bool true)) := by
  obtain ⟨na, nb⟩ := wf_range wn
  obtain ⟨aa, ab⟩ := wf_range wa
  clear wn wa _hz
  go_enter Try.func8, Try.ntmps8
  go_wp2_with fail
  refine (NewSource_any _ _ _ h).mono ?_
  rintro e wA ⟨g, rfl, gg, hs1, hg1⟩
  clear h
  go_wp2_with fail
  refine (Range_any g 1 9 _ hs1 (by omega) (by omega) (by omega)).mono ?_
  rintro e wB ⟨K, rfl, k0, k1, hs2, hb2⟩
  obtain ⟨K, rfl⟩ := Int.eq_ofNat_of_zero_le (show 0 ≤ K by omega)
  have hg2 := hb2.grow hg1 gg
  clear hs1 hg1 hb2
  go_wp2_with fail
  refine (UnseenOf_any g K 24 _ hs2 (by omega) (by omega) (by omega)).mono ?_
  rintro e wC ⟨G, zs, rfl, bG, hG, hlK, hzw, hsum, hs3, hb3⟩
  have hg3 := hb3.grow hg2 gg
  have hGg : G ≠ g := by have := hs2.lt; omega
  have hzl : zs.length ≤ 9 := by omega
  have hz1 : 1 ≤ zs.length := by omega
  have HZ := hid hzw
  have HU := hid (ok_unErr (by omega) (by omega) hzw)
  obtain ⟨M, hM⟩ := Int.eq_ofNat_of_zero_le (show 0 ≤ sumI zs by have := hzw.sum; omega)
  have hM24 : M ≤ 24 := by omega
  have HM := hid hM
  clear hs2 hg2 hb3 hG hlK hsum hzw k0 k1 hM
  go_wp2_with (at_make; refine wpList_make_blk w _ rfl (.tmp 33) (.tmp 33) _ rfl 3 (.int .i64 0) 8 Try.underlying22 infoInt rfl _ _ _ _ zs.length rfl rfl (by omega) (by omega) (by omega) (by omega) hg3 ?_; intro G2 wD bD hG2w hG2 hgD hgD')
  have hG2g : G2 ≠ g := by have := hs3.lt; omega
  have hG2G : G2 ≠ G := by have := bG.lt; omega
  have hs4 := hs3.grow hgD'
  have bG4 := bG.grow hgD'
  clear hg3 hs3 hgD' bG hG2
  have bD2 : Blk wD G2 3 (ints (List.replicate zs.length 0)) := by simpa [ints] using bD
  clear bD
  go_loopw [10] (fun i wr => ∃ (k : Nat) (xs : List Int), k ≤ zs.length ∧ i = .int .i64 (k : Int) ∧ xs.length = zs.length ∧ Within 0 1 xs ∧ Blk wr G 3 (ints zs) ∧ Blk wr G2 3 (ints xs) ∧ Src wr g ∧ Grow w wr) (fun i _ => zs.length - (intOf i).toNat)
  case atStart => exact ⟨0, _, Nat.zero_le _, rfl, by simp, Within.zeros (by omega) (by omega), bG4, bD2, hs4, hgD⟩
  case round =>
    clear bG4 bD2 hs4 hgD
    obtain ⟨k, xs, hk, rfl, hxl, hxw, bG, bX, hs, hg⟩ := hrel
    have HXL := hid hxl
    have HXW := hid hxw
    clear hxw
    by_cases hlt : k < zs.length
    · have i1 : (k : Int) < (zs.length : Int) := by omega
      have i0 : (0 : Int) ≤ (k : Int) := by omega
      have hkx : k < xs.length := by omega
      clear hxl
      go_wp2_with fail
      refine (Below_any g _ _ hs (by omega)).mono ?_
      rintro e w3 ⟨r, rfl, r0, r1, _, hs3, hb3⟩
      have r2 := r1 (by omega)
      clear r1
      have bG3 := hb3.blk bG hGg
      have bX3 := hb3.blk bX hG2g
      have hg3 := hb3.grow hg gg
      have q1 := bX3.cell_int hkx
      have f1 := bX3.free k
      clear bG bX hg hs hb3
      go_wp2
      exact ⟨⟨k + 1, xs.set k r, by omega, by go_num, by rw [List.length_set]; exact HXL.out, HXW.out.set k ⟨r0, by omega⟩, bG3.far (by simpa using hG2G.symm) _, bX3.set_int k r, hs3.setFar (by simp; omega) _, hg3.set hG2w _⟩, by simp only [intOf]; omega⟩
    · clear hxl
      have IG := hid (fun W (hb : Blk W G 3 (ints zs)) => hb.is (by unfold maxLen; omega))
      have IX := hid (fun W (hb : Blk W G2 3 (ints xs)) => (by
        have h := hb.is (by have := HXL.out; unfold maxLen; omega)
        rwa [HXL.out] at h : IsInts W (.slice (some ⟨G2, 0, none⟩) zs.length zs.length) xs))
      have TOT := hid (fun W (hb : Blk W G 3 (ints zs)) => (by
        have h := ltotal_any _ zs W (IG.out W hb) (fun z hz => by have := HZ.out z hz; omega) (by omega)
        rwa [HM.out] at h : Calls Try.prog 39 #[.slice (some ⟨G, 0, none⟩) zs.length zs.length] W (Same W (.int .i64 (M : Int)))))
      go_wp2_with fail
      refine (TOT.out _ bG).mono ?_
      rintro e w4 ⟨rfl, rfl⟩
      go_wp2_with fail
      refine (Into_any n0 ((M : Int) + 1) _ na nb (by omega) (by omega)).mono ?_
      rintro e w4 ⟨rfl, rfl⟩
      have e0 := Int.emod_nonneg n0 (show (M : Int) + 1 ≠ 0 by omega)
      have e1 := Int.emod_lt_of_pos n0 (show 0 < (M : Int) + 1 by omega)
      generalize n0 % ((M : Int) + 1) = n at *
      obtain ⟨N, rfl⟩ := Int.eq_ofNat_of_zero_le e0
      have hNM : N ≤ M := by omega
      clear e0 e1 na nb
      have D1 := hid (fun va vb x W (h1 : IsInts W va zs) (h2 : IsInts W vb x) (hw : Within 0 4 x) (hl : x.length = zs.length) => Draws_good va vb zs x N W h1 h2 HU.out hw hl (by rw [HM.out]; omega))
      go_wp2_with fail
      refine (D1.out _ _ xs _ (IG.out _ bG) (IX.out _ bX) (fun z hz => by have := HXW.out z hz; omega) HXL.out).mono ?_
      rintro e w5 ⟨v5, rfl, o5, g5⟩
      obtain ⟨A1, m1, c1, A2, m2, c2, rfl, kA1, kA2⟩ := o5.open_
      clear o5
      have b5 : Blk (w5.alloc (.cells #[.slice A1 m1 c1, .slice A2 m2 c2] 25)) w5.heap.size 25 [.slice A1 m1 c1, .slice A2 m2 c2] := Blk.new_at rfl
      have g6 : Grow wr (w5.alloc (.cells #[.slice A1 m1 c1, .slice A2 m2 c2] 25)) := g5.alloc _
      have K1 := hid (kA1.grow ((Grow.refl _).alloc (.cells #[.slice A1 m1 c1, .slice A2 m2 c2] 25)))
      have K2 := hid (kA2.grow ((Grow.refl _).alloc (.cells #[.slice A1 m1 c1, .slice A2 m2 c2] 25)))
      clear kA1 kA2 g5
      have e0 := Int.emod_nonneg at0 (show (zs.length : Int) ≠ 0 by omega)
      have e1 := Int.emod_lt_of_pos at0 (show 0 < (zs.length : Int) by omega)
      have INTO := hid (fun W => Into_any at0 (zs.length : Int) W aa ab (by omega) (by omega))
      generalize at0 % (zs.length : Int) = a at *
      obtain ⟨a, rfl⟩ := Int.eq_ofNat_of_zero_le e0
      have hax : a < xs.length := by have := HXL.out; omega
      go_wp2_with fail
      refine (INTO.out _).mono ?_
      rintro e w6 ⟨rfl, hw6⟩
      rw [hw6] at b5 g6 K1 K2
      clear hw6 INTO aa ab
      generalize w5.heap.size = P1 at *
      have ga : Grow w6 (w6.alloc (.cells #[] 3)) := (Grow.refl _).alloc _
      have o0 := hid (Own.lit0 (Grow.refl w6))
      have IX6 := hid (IX.out _ ((bX.grow g6).grow ga))
      have HXX := HXL.out
      have hxl1 : xs.length ≤ 9 := by omega
      clear HXX
      obtain ⟨z0, z1⟩ := HXW.out.at_ hax
      have j0 : (0 : Int) ≤ (a : Int) := by omega
      have j1 : (a : Int) < (xs.length : Int) := by omega
      go_wp2_with (at_builtin; refine wpList_append_ints w6 _ rfl (.tmp 62) (.tmp 63) _ rfl Try.underlying22 _ _ [] xs rfl o0.out rfl IX6.out (by simp; omega) ga ?_; intro v7 w7 ho7 hg7 _; obtain ⟨g7, c7, rfl, hgg7, ho8⟩ := own_open ho7 (by omega); clear ho7; have q7 := ho8.cell hax; have f7 := Own.free ho8 a)
      have ho9 := ho8.set a (xs[a] + 1)
      have g9 : Grow w6 (w7.setCell ⟨g7, a, none⟩ (.int .i64 (xs[a] + 1))) := hg7.set hgg7 _
      clear q7 f7 ho8 hg7 o0 IX6 ga
      have bG9 := bG.grow (g6.trans g9)
      have hs9 := hs.grow (g6.trans g9)
      have b9 := b5.grow g9
      have K1' := hid (K1.out.grow g9)
      have K2' := hid (K2.out.grow g9)
      have gW := (hg.trans g6).trans g9
      have hyw : Within 0 4 (xs.set a (xs[a] + 1)) := Within.set (fun z hz => by have := HXW.out z hz; omega) a ⟨by omega, by omega⟩
      have hyl : (xs.set a (xs[a] + 1)).length = zs.length := by rw [List.length_set]; exact HXL.out
      have ANTI := hid (wayW_anti (u := zs) (x := xs) (y := xs.set a (xs[a] + 1)) (fun k => getD_set_le _ (fun _ => by omega) k) zs.length N)
      have NN := hid (fun z (hz : z ∈ zs) => (HZ.out z hz).1)
      have LA := hid (Int.lt_of_le_of_lt (wayW_le (x := xs) NN.out (fun z hz => (HXW.out z hz).1) N) (choose_lt40 (n := sumI zs) N (by rw [HM.out]; omega)).1)
      have LB := hid (Int.lt_of_le_of_lt (wayW_le (x := xs.set a (xs[a] + 1)) NN.out (fun z hz => (hyw z hz).1) N) (choose_lt40 (n := sumI zs) N (by rw [HM.out]; omega)).1)
      have LC := hid (choose_lt40 (n := sumI zs) N (by rw [HM.out]; omega)).1
      have ALL := hid (wayW_all NN.out zs.length N)
      generalize w7.setCell ⟨g7, a, none⟩ (.int .i64 (xs[a] + 1)) = w9 at *
      clear bG hs b5 K1 K2 hg g6 g9 bX
      refine (D1.out _ _ _ _ (IG.out _ bG9) ho9.is hyw hyl).mono ?_
      generalize wayW zs (xs.set a (xs[a] + 1)) zs.length N = B at *
      generalize wayW zs xs zs.length N = A at *
      rintro e w10 ⟨v10, rfl, o10, g10⟩
      obtain ⟨B1, n1, d1, B2, n2, d2, rfl, kB1, kB2⟩ := o10.open_
      clear o10 ho9 hyw hyl
      have gz := g10.alloc (.cells #[.slice B1 n1 d1, .slice B2 n2 d2] 25)
      have b10 : Blk (w10.alloc (.cells #[.slice B1 n1 d1, .slice B2 n2 d2] 25)) w10.heap.size 25 [.slice B1 n1 d1, .slice B2 n2 d2] := Blk.new_at rfl
      have b9 := b9.grow gz
      have KB := hid (kB1.grow ((Grow.refl _).alloc (.cells #[.slice B1 n1 d1, .slice B2 n2 d2] 25)))
      have K1 := hid (K1'.out.grow gz)
      have K2 := hid (K2'.out.grow gz)
      have bG10 := bG9.grow gz
      have hs10 := hs9.grow gz
      have gW := gW.trans gz
      clear kB1 kB2 K1' K2' g10 gz bG9 hs9
      go_wp2_with (at_make; refine wpList_make_blk _ _ rfl (.tmp 84) (.tmp 84) _ rfl 3 (.int .i64 0) 8 Try.underlying22 infoInt rfl _ _ _ _ zs.length rfl rfl (by omega) (by omega) (by omega) (by omega) (Grow.refl _) ?_; intro G3 w11 b11 _ _ g11 _)
      have b9 := b9.grow g11
      have b10 := b10.grow g11
      have K1' := hid (K1.out.grow g11)
      have K2' := hid (K2.out.grow g11)
      have KB' := hid (KB.out.grow g11)
      have bG11 := bG10.grow g11
      have hs11 := hs10.grow g11
      have gW := gW.trans g11
      generalize w10.heap.size = P2 at *
      have iZ : IsInts w11 (.slice (some ⟨G3, 0, none⟩) zs.length zs.length) (List.replicate zs.length 0) := by
        have h := Blk.is (zs := List.replicate zs.length 0) (w := w11) (g := G3) (e := 3) (by simpa [ints] using b11) (by simp [maxLen]; omega)
        rwa [List.length_replicate] at h
      have DZ := hid (D1.out _ _ _ w11 (IG.out _ bG11) iZ (Within.zeros (by omega) (by omega)) (by simp))
      rw [ALL.out] at DZ
      have LC' := LC
      generalize chooseI (sumI zs) N = C at *
      clear K1 K2 KB bG10 hs10 b11 g11 D1 iZ
      refine DZ.out.mono ?_
      rintro e w12 ⟨v12, rfl, o12, g12⟩
      obtain ⟨C1, l1, e1, C2, l2, e2, rfl, kC1, kC2⟩ := o12.open_
      clear o12 DZ
      have gz := g12.alloc (.cells #[.slice C1 l1 e1, .slice C2 l2 e2] 25)
      have gz' := (Grow.refl w12).alloc (.cells #[.slice C1 l1 e1, .slice C2 l2 e2] 25)
      have b12 : Blk (w12.alloc (.cells #[.slice C1 l1 e1, .slice C2 l2 e2] 25)) w12.heap.size 25 [.slice C1 l1 e1, .slice C2 l2 e2] := Blk.new_at rfl
      have b9 := b9.grow gz
      have b10 := b10.grow gz
      have y1 := b9.cell 0
      have y2 := b9.cell 1
      have y3 := b10.cell 0
      have y4 := b12.cell 0
      have y5 := b12.cell 1
      simp only [List.getElem?_cons_zero, List.getElem?_cons_succ] at y1 y2 y3 y4 y5
      have CMP := hid (fun W (hg : Grow w12 W) (hg' : Grow w11 W) => Compare_nat _ _ B A W (KB'.out.grow hg').1 (K1'.out.grow hg').1 LB.out LA.out)
      have SN1 := hid (fun W (hg : Grow w12 W) => SameNat_same _ _ C W (kC1.grow hg).1 (kC2.grow hg).1)
      have SN2 := hid (fun W (hg : Grow w12 W) (hg' : Grow w11 W) => SameNat_same _ _ C W (K2'.out.grow hg').1 (kC2.grow hg).1)
      have hcmp := cmpI_le ANTI.out
      generalize cmpI B A = z at *
      have bG12 := bG11.grow gz
      have hs12 := hs11.grow gz
      have gW := gW.trans gz
      clear K1' K2' KB' kC1 kC2 b9 b10 b12 bG11 hs11 ANTI LA LB
      go_wp2_with fail
      refine (CMP.out _ gz' gz).mono ?_
      rintro e w13 ⟨rfl, g13⟩
      have y1 := g13.cell_some y1
      have y2 := g13.cell_some y2
      have y4 := g13.cell_some y4
      have y5 := g13.cell_some y5
      go_wp2_with fail
      refine (SN1.out _ (gz'.trans g13)).mono ?_
      rintro e w14 ⟨rfl, n14, rfl⟩
      go_wp2_with fail
      refine (SN2.out _ ((gz'.trans g13).drewN n14) ((gz.trans g13).drewN n14)).mono ?_
      rintro e w15 ⟨rfl, n15, rfl⟩
      have bG15 := ((bG12.grow g13).drewN n14).drewN n15
      have hs15 := ((hs12.grow g13).drewN n14).drewN n15
      have gW := ((gW.trans g13).drewN n14).drewN n15
      clear y1 y2 y3 y4 y5 CMP SN1 SN2 gz gz' g12 g13 bG12 hs12
      generalize (w13.drewN n14).drewN n15 = w16 at *
      go_wp2_with fail
      clear hcmp
      have hGz : G < w16.heap.size := bG15.lt
      refine (PlacesOf_any g zs.length 2 _ hs15 (by omega) (by omega)).mono ?_
      rintro e w17 ⟨vP, ks, rfl, kP, hris, hs17, hb17⟩
      have bG17 := hb17.blk bG15 hGg
      have gW := hb17.grow gW gg
      obtain ⟨A3, m3, c3, rfl⟩ := ints_open kP.1
      have hm3 : m3 = ks.length := by
        obtain ⟨A, c, e, _⟩ := kP.1
        injection e
      subst hm3
      have hkl : ks.length ≤ 9 := by have := ris_len hris (by omega); omega
      have HR := hid hris
      clear bG15 hs15 hb17 hris hGz hs17
      have ga : Grow w17 (w17.alloc (.cells #[] 3)) := (Grow.refl _).alloc _
      have o0 := hid (Own.lit0 (Grow.refl w17))
      have I7 := hid (IG.out _ (bG17.grow ga))
      go_wp2_with (at_builtin; refine wpList_append_ints w17 _ rfl (.tmp 128) (.tmp 129) _ rfl Try.underlying22 _ _ [] zs rfl o0.out rfl I7.out (by simp; omega) ga ?_; intro v18 w18 ho18 hg18 _; obtain ⟨g8, c8, rfl, hgg8, ho19⟩ := own_open ho18 (by omega); clear ho18)
      clear o0 I7 ga
      go_loopw [20] (fun i wr => ∃ (j : Nat) (rs : List Int), j ≤ ks.length ∧ i = .int .i64 (j : Int) ∧ Struck zs ks rs j ∧ Within 0 4 rs ∧ Own w17 wr (.slice (some ⟨g8, 0, none⟩) zs.length c8) rs ∧ Grow w17 wr) (fun i _ => ks.length - (intOf i).toNat)
      case atStart => exact ⟨0, zs, Nat.zero_le _, rfl, Struck.start zs ks, HZ.out, ho19, hg18⟩
      case round =>
        clear ho19 hg18
        obtain ⟨j, rs, hj, rfl, hst, hrw, ho, hg⟩ := hrel
        have HST := hid hst
        have HRW := hid hrw
        clear hst hrw
        by_cases hlt : j < ks.length
        · obtain ⟨ad, rfl, _, hx⟩ := (kP.1.grow hg).at_ hlt
          obtain ⟨r1, r2, r3⟩ := ris_prev HR.out hlt
          have hl : ks[j].toNat < rs.length := by have := HST.out.len; omega
          have ho' : Own w17 wr (.slice (some ⟨g8, 0, none⟩) rs.length c8) rs := by rw [HST.out.len]; exact ho
          have q1 := ho'.cell hl
          have f1 := Own.free ho' ks[j].toNat
          have ho2 := ho'.set ks[j].toNat 0
          rw [HST.out.len] at ho2
          clear ho ho' r1
          go_wp2
          exact ⟨⟨j + 1, _, by omega, by go_num, HST.out.step HR.out hlt, HRW.out.set _ ⟨by omega, by omega⟩, ho2, hg.set hgg8 _⟩, by simp only [intOf]; omega⟩
        · obtain rfl : j = ks.length := by omega
          have hat := sumAt_le (fun z hz => (HZ.out z hz).1) HR.out (by omega)
          have hsum := HST.out.sum
          rw [List.take_length] at hsum
          simp only [Int.reduceNeg, Int.reduceAdd, Int.toNat_zero, List.drop_zero] at hat
          rw [HM.out] at hat hsum
          obtain ⟨S, hS⟩ := Int.eq_ofNat_of_zero_le hat.1
          obtain ⟨R, hR⟩ : ∃ R : Nat, sumI rs = R := ⟨(sumI rs).toNat, by omega⟩
          have hRM : R ≤ M := by omega
          have HS := hid hS
          have HRR := hid hR
          have ER := hid (show (M : Int) - sumAt zs ks = R by omega)
          have rl := HST.out.len
          have rl1 : rs.length ≤ 9 := by omega
          have TR := hid (fun W (hg' : Grow wr W) => (by
            have h := ltotal_any _ rs W (ho.is.grow hg') (fun z hz => by have := HRW.out z hz; omega) (by omega)
            rwa [HRR.out] at h : Calls Try.prog 39 #[.slice (some ⟨g8, 0, none⟩) zs.length c8] W (Same W (.int .i64 (R : Int)))))
          have AN := hid (fun (T : Nat) W (hg' : Grow w17 W) (hT : T ≤ M) => (by
            have h := Any_good _ _ zs ks T W (IG.out W (bG17.grow hg')) (kP.1.grow hg') HU.out HR.out (by rw [HM.out]; omega)
            unfold anyWays at h
            rw [HM.out, ER.out] at h
            exact h : Calls Try.prog 33 #[.slice (some ⟨G, 0, none⟩) zs.length zs.length, .slice A3 ks.length c3, .int .i64 (T : Int)] W (OddsErr W (chooseI M T - chooseI R T) (chooseI M T) 0)))
          have TOT2 := hid (fun W (hg' : Grow w17 W) => TOT.out W (bG17.grow hg'))
          have gW := gW.trans hg
          clear hat hsum hS hR rl rl1 ho kP bG17
          go_wp2_with fail
          refine (AN.out N _ hg hNM).mono ?_
          rintro e w20 ⟨v20, rfl, o20, g20⟩
          obtain ⟨X1, x1, t1, X2, x2, t2, rfl, k1, k2⟩ := o20.open_
          clear o20
          have hle : ∀ T : Nat, chooseI R T ≤ chooseI M T := fun T => chooseI_mono _ (by omega) (by omega)
          have h0 : ∀ T : Nat, 0 ≤ chooseI R T := fun T => chooseI_nonneg _ _
          have hlt4 : ∀ T : Nat, chooseI M T < radix 40 := fun T => (choose_lt40 (n := (M : Int)) T (by omega)).1
          have FAIR := hid (fun (T : Nat) (hT : T ≤ M) => (show Fair (chooseI M T - chooseI R T) (chooseI M T) from ⟨by have := hle T; omega, by have := h0 T; omega, by have := binom_pos hT; rw [chooseI_nat]; omega⟩))
          have H4 := hid hlt4
          have HLE := hid (And.intro (hle N) (h0 N))
          have MORE := hid (fun (hN : N < M) => draws_more (N := M) (R := R) (n := N) hRM hN)
          clear hle h0 hlt4
          have gz := g20.alloc (.cells #[.slice X1 x1 t1, .slice X2 x2 t2] 25)
          have b20 : Blk (w20.alloc (.cells #[.slice X1 x1 t1, .slice X2 x2 t2] 25)) w20.heap.size 25 [.slice X1 x1 t1, .slice X2 x2 t2] := Blk.new_at rfl
          have y1 := b20.cell 0
          have y2 := b20.cell 1
          simp only [List.getElem?_cons_zero, List.getElem?_cons_succ] at y1 y2
          have k1' := hid (k1.grow ((Grow.refl _).alloc (.cells #[.slice X1 x1 t1, .slice X2 x2 t2] 25)))
          have k2' := hid (k2.grow ((Grow.refl _).alloc (.cells #[.slice X1 x1 t1, .slice X2 x2 t2] 25)))
          have gW := gW.trans gz
          have gX := hg.trans gz
          have T1 := hid (TR.out _ gz)
          clear k1 k2 b20 g20 gz TR hg
          go_wp2_with fail
          refine T1.out.mono ?_
          rintro e w21 ⟨rfl, hw21⟩
          rw [hw21] at y1 y2 k1' k2' gW gX
          clear hw21 T1
          generalize w20.heap.size = P4 at *
          go_wp2_with fail
          refine (bin_any (R : Int) (N : Int) _ (by omega) (by omega) (by omega)).mono ?_
          rintro e w22 ⟨v22, rfl, k22, g22⟩
          obtain ⟨X3, x3, t3, rfl⟩ := k22.open_
          have y1 := g22.cell_some y1
          have y2 := g22.cell_some y2
          have SM := Sum_nat _ _ _ _ w22 (k1'.out.grow g22).1 k22.1 (by have := H4.out N; have := HLE.out; omega) (by have := H4.out N; have := HLE.out; omega) (by have := H4.out N; have := HLE.out; omega)
          rw [show chooseI M N - chooseI R N + chooseI R N = chooseI M N by omega] at SM
          have SUM := hid SM
          clear SM k22
          go_wp2_with fail
          refine SUM.out.mono ?_
          rintro e w23 ⟨v23, rfl, k23, g23⟩
          obtain ⟨X5, x5, t5, rfl⟩ := k23.open_
          have y1 := g23.cell_some y1
          have y2 := g23.cell_some y2
          have gY := g22.trans g23
          have SN := hid (SameNat_same _ _ (chooseI M N) w23 k23 (k2'.out.grow gY).1)
          clear k23 SUM
          go_wp2_with fail
          refine SN.out.mono ?_
          rintro e w24 ⟨rfl, n24, rfl⟩
          have gY := gY.drewN n24
          have y1 : (w23.drewN n24).cell? ⟨P4, 0, none⟩ = _ := y1
          have y2 : (w23.drewN n24).cell? ⟨P4, 1, none⟩ = _ := y2
          clear SN g22 g23
          generalize w23.drewN n24 = w24 at *
          go_wp2_with fail
          refine (TOT2.out _ (gX.trans gY)).mono ?_
          rintro e w25 ⟨rfl, rfl⟩
          by_cases hN : N < M
          · have hN1 : (N : Int) < (M : Int) := by omega
            have A2 : Calls Try.prog 33 #[.slice (some ⟨G, 0, none⟩) zs.length zs.length, .slice A3 ks.length c3, .int .i64 ((N : Int) + 1)] w24 (OddsErr w24 (chooseI M (N + 1 : Nat) - chooseI R (N + 1 : Nat)) (chooseI M (N + 1 : Nat)) 0) := AN.out (N + 1) w24 (gX.trans gY) (by omega)
            have AA := hid A2
            have MO := hid (MORE.out hN)
            have F1 := hid (FAIR.out (N + 1) (by omega))
            have F2 := hid (FAIR.out N hNM)
            clear A2 TOT2 AN
            go_wp2_with fail
            refine AA.out.mono ?_
            rintro e w26 ⟨v26, rfl, o26, g26⟩
            obtain ⟨Z1, l1, s1, Z2, l2, s2, rfl, kz1, kz2⟩ := o26.open_
            have gz := g26.alloc (.cells #[.slice Z1 l1 s1, .slice Z2 l2 s2] 25)
            have gz' := (Grow.refl w26).alloc (.cells #[.slice Z1 l1 s1, .slice Z2 l2 s2] 25)
            have y1 := gz.cell_some y1
            have y2 := gz.cell_some y2
            have BT := better_fair (.agg #[.slice Z1 l1 s1, .slice Z2 l2 s2]) (.agg #[.slice X1 x1 t1, .slice X2 x2 t2]) _ _ _ _ _ (o26.grow gz') ⟨_, _, rfl, k1'.out.grow (gY.trans gz), k2'.out.grow (gY.trans gz)⟩ F1.out (H4.out (N + 1)) F2.out (H4.out N)
            have hmo := MO.out
            generalize betterV (chooseI M (N + 1 : Nat) - chooseI R (N + 1 : Nat)) (chooseI M (N + 1 : Nat)) (chooseI M N - chooseI R N) (chooseI M N) = z at BT hmo
            have BT := hid BT
            have gW := gW.trans (gY.trans gz)
            clear o26 kz1 kz2 F1 F2 MO AA MORE FAIR H4 HLE k1' k2' gX gY gz gz' g26
            go_wp2_with fail
            refine BT.out.mono ?_
            rintro e w27 ⟨rfl, g27⟩
            go_wp2_with fail
            refine (awake_any _).mono ?_
            rintro e w28 ⟨rfl, g28⟩
            go_wp2
            go_ret
            exact ⟨rfl, (gW.trans g27).trans g28⟩
          · go_wp2_with fail
            refine (awake_any _).mono ?_
            rintro e w26 ⟨rfl, g26⟩
            go_wp2
            go_ret
            exact ⟨rfl, (gW.trans gY).trans g26⟩
end Go.Proofs.Ytgphdaipgodjgaa
