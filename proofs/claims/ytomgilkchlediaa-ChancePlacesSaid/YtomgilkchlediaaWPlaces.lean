/-
  The walk of the law ChancePlaces.
-/
import Derived.Test.YtomgilkchlediaaPlaceL
import Derived.Test.YtomgilkchlediaaRanks
import Derived.Test.YtomgilkchlediaaWRanks
import Derived.Test.YtomgilkchlediaaFrame
namespace Go.Proofs.Ytomgilkchlediaa
open Go.RowKit

theorem Small_nat (v : Value) (a : Int) (w : World) (h : IsNat w v a) (h1 : a < 1000000000) : Calls Try.prog 15 #[v] w (Same w (.int .i64 a)) := by
  obtain ⟨zs, hc, rfl, A, c, rfl, hl, hm, hr⟩ := h
  unfold maxLen at hm
  have hfin : ∀ z, z = val zs → Same w (.int .i64 (val zs)) (.returned (.int .i64 z)) w := fun z hz => ⟨by rw [hz], rfl⟩
  have HF := hid hfin
  clear hfin
  match zs, hc, h1, hl, hr, HF with
  | [], _, _, _, _, HF =>
    go_enter Try.func15, Try.ntmps15
    go_wp2
    go_ret
    exact HF.out _ rfl
  | [x], _, _, _, hr, HF =>
    obtain ⟨ad, rfl, _, hx⟩ := hr.int (k := 0) (by simp)
    simp only [List.getElem_cons_zero] at hx
    rw [show ad.add 0 = ad by simp [Addr.add]] at hx
    have HE := hid (show x = val [x] by simp [val])
    go_enter Try.func15, Try.ntmps15
    go_wp2
    go_ret
    exact HF.out _ HE.out
  | x :: y :: l, hc, h1, _, _, _ =>
    exfalso
    have h := hc.lower (by simp)
    have h2 := radix_mono (show 1 ≤ (x :: y :: l).length - 1 by simp)
    have h3 : radix 1 = 1000000000 := by decide
    omega
/-- A natural that is read as a small number. -/
structure SmallAt (w : World) (v : Value) (a : Int) : Prop where
  nat : IsNat w v a
  lt : a < 1000000000
theorem SmallAt.grow {w w' : World} {v : Value} {a : Int} (h : SmallAt w v a) (g : Grow w w') : SmallAt w' v a := ⟨h.nat.grow g, h.lt⟩
theorem Small_at {w : World} {v : Value} {a : Int} (h : SmallAt w v a) (n : Nat) : Calls Try.prog 15 #[v] (w.drewN n) (Same (w.drewN n) (.int .i64 a)) := Small_nat v a _ (h.nat.grow ((Grow.refl w).drewN n)) h.lt
theorem rankErr_made {pts : List Int} {l : List Sw} {d : Int} (h1 : 1 ≤ pts.length) (h4 : pts.length ≤ 4) (hp : ∀ z ∈ pts, 0 ≤ z ∧ z ≤ 11) (hl : SwMade pts.length l) (h0 : 0 ≤ d) (h3 : d ≤ 3) : rankErr pts l d = 0 := by
  unfold rankErr
  rw [if_neg (by omega), if_neg (by omega), if_neg, if_neg, if_neg (by omega)]
  · rw [swErr_made hl]; simp
  · rw [Bool.not_eq_true, List.any_eq_false]
    intro z hz
    have := hp z hz
    simp [farB]
    omega
/-- What valid points and swings give. -/
theorem rank_ok {w w' : World} {pts : List Int} {l : List Sw} {d : Int} {e : Ending} (he : rankErr pts l d = 0) (h : RankRes w pts l d e w') : ∃ P Q A m c, e = .returned (.tuple #[.slice (some ⟨P, 0, none⟩) pts.length pts.length, .slice A m c, .int .i64 0]) ∧ IsNatF w' (.slice A m c) (wsum l oneP d.toNat pts) ∧ TabAt w' P pts.length Q (fun i j => wsum l (indP i j) d.toNat pts) ∧ Grow w w' := by
  rcases h with ⟨h, _⟩ | ⟨_, h⟩
  · exact absurd he h
  · exact h
theorem IsSw.wt {w : World} {A : Option Addr} {m c : Nat} {l : List Sw} (h : IsSw w (.slice A m c) l) {k : Nat} (hk : k < l.length) : ∃ ad, A = some ad ∧ w.cell? (ad.add (k * 2)) = some (.int .i64 l[k].w) := by
  obtain ⟨A', c', e, h1, h2, h3⟩ := h
  obtain ⟨ad, B, n, d, e2, _, x0, _⟩ := h3 k hk
  injection e with e _ _
  subst e
  exact ⟨ad, e2, x0⟩
theorem sumW_take {n : Nat} {l : List Sw} (h : SwMade n l) : ∀ k, k ≤ l.length → 0 ≤ sumW (l.take k) ∧ sumW (l.take k) ≤ 9 * (k : Int)
  | 0, _ => by simp [sumW, sumI]
  | k + 1, hk => by
    have ih := sumW_take h k (by omega)
    have hw := (h.each l[k] (List.getElem_mem _)).1
    unfold sumW at ih ⊢
    rw [List.take_succ_eq_append_getElem (by omega), List.map_append, sumI_append]
    simp [sumI] at ih ⊢
    omega
theorem sumW_succ {l : List Sw} {k : Nat} (h : k < l.length) : sumW (l.take (k + 1)) = sumW (l.take k) + l[k].w := by
  unfold sumW
  rw [List.take_succ_eq_append_getElem h, List.map_append, sumI_append]
  simp [sumI]

set_option maxRecDepth 100000 in
set_option maxHeartbeats 8000000 in
theorem walkChancePlaces (v0 : Value) (ns : List Int) (d0 : Int) (w : World) (h0 : IsInts w v0 ns) (_z0 : ∀ z ∈ ns, (Lit.int .i64 z).wf = true) (w1 : (Lit.int .i64 d0).wf = true) :
    Calls Try.prog 4 #[v0, .int .i64 d0] w (Gives w (.bool true)) := by
  clear _z0
  have H0 := hid h0
  clear h0
  have da : -9223372036854775808 ≤ d0 ∧ d0 ≤ 9223372036854775807 := wf_range w1
  clear w1
  have AW := hid (fun W (hg : Grow w W) => (awake_any W).mono (fun e w' h => (⟨h.1, hg.trans h.2⟩ : Gives w (.bool true) e w')))
  go_enter Try.func4, Try.ntmps4
  go_wp2_with fail
  refine (NewSource_any _ _ _ H0.out).mono ?_
  rintro e wA ⟨g, rfl, gg, hs1, hg1⟩
  go_wp2_with fail
  refine (Range_any g 1 4 _ hs1 (by omega) (by omega) (by omega)).mono ?_
  rintro e wB ⟨S, rfl, s0, s1, hs2, hb2⟩
  obtain ⟨S, rfl⟩ := Int.eq_ofNat_of_zero_le (show 0 ≤ S by omega)
  have hg2 := hb2.grow hg1 gg
  have gl := hs2.lt
  clear hs1 hg1 hb2
  go_wp2_with fail
  go_loopw [7, 8] (fun pv i wr => ∃ (k : Nat) (zs : List Int), k ≤ S ∧ i = .int .i64 (k : Int) ∧ Own wB wr pv zs ∧ zs.length = k ∧ (∀ z ∈ zs, 0 ≤ z ∧ z ≤ 11) ∧ Src wr g ∧ But g wB wr) (fun _ i _ => S - (intOf i).toNat)
  case atStart => exact ⟨0, [], Nat.zero_le _, rfl, Own.nil _ _, rfl, by simp, hs2, But.refl _ _⟩
  case round =>
    obtain ⟨j, zs, hj, rfl, hz, hzl, hzb, hs3, hb3⟩ := hrel
    have HZL := hid hzl
    have HZB := hid hzb
    clear hzl hzb
    obtain ⟨AZ, mZ, cZ, rfl⟩ := hz.slice_
    by_cases hjl : j < S
    · have j0 : (j : Int) < (S : Int) := by omega
      have j1 : (0 : Int) ≤ (j : Int) := by omega
      go_wp2_with fail
      refine (Below_any g 12 _ hs3 (by omega)).mono ?_
      rintro e w4 ⟨x, rfl, x0, x1, _, hs4, hb4⟩
      have x1 := x1 (by omega)
      have hz4 := hz.but hb4 (by omega)
      have hb5 := hb3.trans hb4
      obtain ⟨v', w5, hrun, hz5, gr5⟩ := run_append_intS wB w4 22 22 Try.underlying22 x _ zs hz4 (by have := HZL.out; omega) hb5.size
      have hown : ∀ i, (Value.slice AZ mZ cZ).ownBlock = some i → wB.heap.size ≤ i := fun i hi => (World.ownsRow.lt hz4 i hi).1
      have HNEW := hid (And.intro hz5 (And.intro ((hs4.grow ((Grow.refl _).alloc _)).own gr5 (fun e => by have := hown g e; omega)) ((hb5.alloc _).own gr5 hown)))
      have HZN := hid (show ∀ z ∈ zs ++ [x], 0 ≤ z ∧ z ≤ 11 from fun z hz => by
        rcases List.mem_append.1 hz with h | h
        · exact HZB.out z h
        · rw [List.mem_singleton] at h; omega)
      have HRUN := hid hrun
      clear hz hz4 hz5 gr5 hrun hs4 hb4 hs3 hb3 hb5
      go_wp2_with (at_builtin; refine wpList_append_at rfl (.tmp 35) (.tmp 38) (by rfl) (by rfl) (by rfl) HRUN.out ?_)
      exact ⟨⟨j + 1, zs ++ [x], by omega, by go_num, HNEW.out.1, by rw [List.length_append, HZL.out]; rfl, HZN.out, HNEW.out.2⟩, by simp only [intOf]; omega⟩
    · obtain rfl : j = S := by omega
      have hg3 := hb3.grow hg2 gg
      have HP := hid hz.F
      clear hz hs2 hg2 hb3
      go_wp2_with fail
      refine (SwingsOf_any g j _ hs3 (by omega)).mono ?_
      rintro e wE ⟨vW, l, rfl, iW, hmade, hs5, hb5⟩
      have hg5 := hb5.grow hg3 gg
      have hP5 := hid (HP.out.but hb5 hs3)
      obtain ⟨WA, WC, rfl, _, _⟩ := iW.is.slice
      clear hs3 hg3 hb5
      have HW := hid iW
      clear iW
      have hzl := HZL.out
      clear HZL
      subst hzl
      have z1 : 1 ≤ zs.length := by omega
      have z4 : zs.length ≤ 4 := by omega
      obtain ⟨D, hD⟩ := Int.eq_ofNat_of_zero_le (show 0 ≤ d0 % 4 by omega)
      have hD3 : D ≤ 3 := by omega
      have IT := hid (fun W => Into_any d0 4 W da.1 da.2 (by omega) (by omega))
      rw [hD] at IT
      have HMD := hid hmade
      have RE := hid (fun (d : Nat) (hd : d ≤ 3) => rankErr_made (d := (d : Int)) z1 z4 HZB.out hmade (by omega) (by omega))
      have RK := hid (fun W (hg : Grow wE W) (d : Int) => Ranks_any _ _ zs l d W (hP5.out.grow hg).1 (HW.out.is.grow hg))
      have l1 := hmade.len
      have HSW := hid HW.out.is
      have HP0 := hid hP5.out.1
      clear hD hmade da
      go_wp2_with (first
        | (go_at_call 14; refine (IT.out _).mono ?_; rintro e w' ⟨rfl, rfl⟩)
        | (go_at_call 10; refine (RK.out _ (Grow.refl _) _).mono ?_; intro e w7 hr; obtain ⟨P, Q, AA, mA, cA, rfl, kn, kt, gR⟩ := rank_ok (RE.out D hD3) hr; rw [Int.toNat_natCast] at kn; simp only [Int.toNat_natCast] at kt))
      have KN := hid kn
      have KT := hid kt
      have GR := hid gR
      clear kn kt gR hr
      go_loopw [13, 14] (fun s i wr => ∃ k : Nat, k ≤ l.length ∧ i = .int .i64 (k : Int) ∧ s = .int .i64 (sumW (l.take k)) ∧ wr = w7) (fun _ i _ => l.length - (intOf i).toNat)
      case atStart => exact ⟨0, Nat.zero_le _, rfl, rfl, rfl⟩
      case round =>
        obtain ⟨k, hk, rfl, rfl, rfl⟩ := hrel
        have hs := sumW_take HMD.out k hk
        by_cases hkl : k < l.length
        · obtain ⟨ad, rfl, hx⟩ := HSW.out.wt hkl
          have hx := GR.out.cell_some hx
          have hwb := (HMD.out.each l[k] (List.getElem_mem _)).1
          have SS := hid (sumW_succ hkl)
          have k0 : (0 : Int) ≤ (k : Int) := by omega
          have k1 : (k : Int) < (l.length : Int) := by omega
          generalize sumW (l.take k) = S0 at *
          generalize l[k].w = wk at *
          go_wp2
          exact ⟨⟨k + 1, by omega, by go_num, by rw [SS.out], trivial⟩, by simp only [intOf]; omega⟩
        · obtain rfl : k = l.length := by omega
          rw [List.take_length] at *
          have hW := sumW_made HMD.out
          have PB := hid (fun k hk => powW_bound hW (d := k) hk)
          clear hs
          go_wp2
          obtain ⟨w7, rfl⟩ : ∃ x, x = wr := ⟨_, rfl⟩
          have kn := KN.out.1
          rw [wsum_one] at kn
          have KN1 := hid kn
          clear kn
          generalize hWW : sumW l = WW at *
          have HWW := hid hWW
          clear hWW
          go_loopw [15, 16] (fun v i wr => ∃ k : Nat, k ≤ D ∧ i = .int .i64 (k : Int) ∧ v = .int .i64 (powW WW k) ∧ wr = w7) (fun _ i _ => D - (intOf i).toNat)
          case atStart => exact ⟨0, Nat.zero_le _, rfl, rfl, rfl⟩
          case round =>
            obtain ⟨k, hk, rfl, rfl, rfl⟩ := hrel
            have hb := PB.out k (by omega)
            by_cases hkD : k < D
            · have hb2 := PB.out (k + 1) (by omega)
              have EQ := hid (show powW WW (k + 1) = powW WW k * WW from rfl)
              rw [EQ.out] at hb2
              have k0 : (k : Int) < (D : Int) := by omega
              generalize powW WW k = pk at *
              have wz : IntKind.i64.wrap (pk * WW) = pk * WW := IntWalk.i64_in _ (by omega)
              clear hb2
              go_wp2
              exact ⟨⟨k + 1, by omega, by go_num, by rw [EQ.out], trivial⟩, by simp only [intOf]; omega⟩
            · obtain rfl : k = D := by omega
              generalize hwn : powW WW k = want at *
              have HWN := hid hwn
              clear hwn
              have SA := hid (Small_nat _ _ wr KN1.out (by omega))
              obtain ⟨w7, rfl⟩ : ∃ x, x = wr := ⟨_, rfl⟩
              go_wp2_with (go_at_call 15; refine SA.out.mono ?_; rintro e w' ⟨rfl, rfl⟩)
              go_loopw [17] (fun i wr => ∃ i0 : Nat, i0 ≤ zs.length ∧ i = .int .i64 (i0 : Int) ∧ Grow w7 wr) (fun i _ => zs.length - (intOf i).toNat)
              case atStart => exact ⟨0, Nat.zero_le _, rfl, Grow.refl _⟩
              case round =>
              obtain ⟨i, hi, rfl, hgi⟩ := hrel
              have HGI := hid hgi
              clear hgi
              obtain ⟨wo, rfl⟩ : ∃ x, x = wr := ⟨_, rfl⟩
              by_cases hin : i < zs.length
              · have i0 : (0 : Int) ≤ (i : Int) := by omega
                have i1 : (i : Int) < (zs.length : Int) := by omega
                have ri := (KT.out.grow HGI.out).row hin
                go_wp2
                go_loopw [18, 19, 20] (fun rv cv kv wr => ∃ (m : Nat) (r c : Int), m ≤ zs.length ∧ kv = .int .i64 (m : Int) ∧ rv = .int .i64 r ∧ cv = .int .i64 c ∧ r = wsum l (rowP i m) k zs ∧ c = wsum l (colP i m) k zs ∧ Grow w7 wr) (fun _ _ kv _ => zs.length - (intOf kv).toNat)
                case atStart => exact ⟨0, 0, 0, Nat.zero_le _, rfl, rfl, rfl, by rw [rowP_zero, wsum_zero], by rw [show colP i 0 = fun _ => 0 from rfl, wsum_zero], HGI.out⟩
                case round =>
                obtain ⟨m, r, c, hm, rfl, rfl, rfl, hr, hc, hgm⟩ := hrel
                have HR := hid hr
                have HC := hid hc
                have HGM := hid hgm
                have rb := wsum_rowsmall HMD.out hD3 i zs m
                have cb := wsum_colsmall HMD.out hD3 i zs m
                rw [← hr] at rb
                rw [← hc] at cb
                clear hr hc hgm ri
                by_cases hmn : m < zs.length
                · have m0 : (0 : Int) ≤ (m : Int) := by omega
                  have m1 : (m : Int) < (zs.length : Int) := by omega
                  have TG := KT.out.grow HGM.out
                  have ri := TG.row hin
                  have rm := TG.row hmn
                  obtain ⟨A3, m3, c3, x3, n3, _, _⟩ := (TG.wins i hin).at_ hmn
                  obtain ⟨A4, m4, c4, x4, n4, _, _⟩ := (TG.wins m hmn).at_ hin
                  have b3 := wsum_small HMD.out hD3 (indP_bound i m) zs
                  have b4 := wsum_small HMD.out hD3 (indP_bound m i) zs
                  have p1 : SmallAt wr (.slice A3 m3 c3) (wsum l (indP i m) k zs) := ⟨n3.1, by omega⟩
                  have p2 : SmallAt wr (.slice A4 m4 c4) (wsum l (indP m i) k zs) := ⟨n4.1, by omega⟩
                  have RS := hid (row_step l k zs i m)
                  have CS := hid (col_step l k zs i m)
                  have rb2 := wsum_rowsmall HMD.out hD3 i zs (m + 1)
                  have cb2 := wsum_colsmall HMD.out hD3 i zs (m + 1)
                  clear n3 n4 TG rb2 cb2
                  generalize wsum l (indP i m) k zs = a1 at *
                  generalize wsum l (indP m i) k zs = a2 at *
                  have wz1 : IntKind.i64.wrap (r + a1) = r + a1 := IntWalk.i64_in _ (by omega)
                  have wz2 : IntKind.i64.wrap (c + a2) = c + a2 := IntWalk.i64_in _ (by omega)
                  go_wp2
                  go_quiet ((go_at_call 15; exact q_same (Small_at (by assumption) _)))
                  have RSO := hid (show r + a1 = wsum l (rowP i (m + 1)) k zs by rw [RS.out, ← HR.out])
                  have CSO := hid (show c + a2 = wsum l (colP i (m + 1)) k zs by rw [CS.out, ← HC.out])
                  clear ri rm x3 x4 p1 p2 wz1 wz2
                  go_wp2
                  exact ⟨⟨m + 1, r + a1, c + a2, by omega, by go_num, rfl, rfl, RSO.out, CSO.out, HGM.out.drewN _⟩, by simp only [intOf]; omega⟩
                · obtain rfl : m = zs.length := by omega
                  have hr := HR.out
                  have hc := HC.out
                  rw [row_all (fun s hs => (HMD.out.each s hs).2.1) rfl hin, HWW.out, HWN.out] at hr
                  rw [col_all (fun s hs => (HMD.out.each s hs).2.1) rfl z1 z4 hin, HWW.out, HWN.out] at hc
                  subst hr
                  subst hc
                  clear rb cb HR HC
                  go_wp2
                  exact ⟨⟨i + 1, by omega, by go_num, HGM.out⟩, by simp only [intOf]; omega⟩
              · have RK2 := hid ((RK.out wo (GR.out.trans HGI.out) 0).mono fun e w' h => (rank_ok (RE.out 0 (by omega)) h : ∃ P Q A m c, e = .returned (.tuple #[.slice (some ⟨P, 0, none⟩) zs.length zs.length, .slice A m c, .int .i64 0]) ∧ IsNatF w' (.slice A m c) (wsum l oneP 0 zs) ∧ TabAt w' P zs.length Q (fun i j => wsum l (indP i j) 0 zs) ∧ Grow wo w'))
                go_wp2_with fail
                refine RK2.out.mono ?_
                rintro e w9 ⟨P2, Q2, A2, m2, c2, rfl, kn, kt, g9⟩
                have SA2 := hid (Small_nat _ 1 w9 kn.1 (by omega))
                have KT2 := hid kt
                have G9 := hid g9
                clear kn kt g9
                go_wp2_with (go_at_call 15; refine SA2.out.mono ?_; rintro e w' ⟨rfl, rfl⟩)
                have GA := hid (((hg5.trans GR.out).trans HGI.out).trans G9.out)
                have HPW := hid (HP0.out.grow ((GR.out.trans HGI.out).trans G9.out))
                obtain ⟨AZ', CZ', ez, hz1, hz2, hz3⟩ := HPW.out
                obtain ⟨rfl, rfl, rfl⟩ : AZ = AZ' ∧ mZ = zs.length ∧ cZ = CZ' := by injection ez with a b c; exact ⟨a, b, c⟩
                have HRD := hid hz3
                clear ez hz1 hz2 hz3
                obtain ⟨w8, rfl⟩ : ∃ x, x = w9 := ⟨_, rfl⟩
                go_loopw [23] (fun i wr => ∃ i0 : Nat, i0 ≤ zs.length ∧ i = .int .i64 (i0 : Int) ∧ ∃ q, wr = w8.drewN q) (fun i _ => zs.length - (intOf i).toNat)
                case atStart => exact ⟨0, Nat.zero_le _, rfl, 0, rfl⟩
                case round =>
                obtain ⟨i, hi, rfl, q0, rfl⟩ := hrel
                by_cases hin : i < zs.length
                case neg =>
                  go_wp2_with fail
                  refine (AW.out _ (GA.out.drewN q0)).mono ?_
                  rintro e w10 ⟨rfl, g10⟩
                  go_wp2
                  go_ret
                  exact ⟨rfl, g10⟩
                case pos =>
                obtain ⟨ad, rfl, hb0, y0⟩ := HRD.out.int hin
                have i0 : (0 : Int) ≤ (i : Int) := by omega
                have i1 : (i : Int) < (zs.length : Int) := by omega
                have HDS := hid (show dg zs i = zs[i] by unfold dg; rw [dif_pos hin])
                go_wp2
                go_loopw [24, 25] (fun n kv wr => ∃ m : Nat, m ≤ zs.length ∧ kv = .int .i64 (m : Int) ∧ n = .int .i64 (placeTo zs i m : Int) ∧ ∃ q, wr = w8.drewN q) (fun _ kv _ => zs.length - (intOf kv).toNat)
                case atStart => exact ⟨0, Nat.zero_le _, rfl, rfl, q0, rfl⟩
                case round =>
                obtain ⟨m, hm, rfl, rfl, q1, rfl⟩ := hrel
                by_cases hlt : m < zs.length
                · obtain ⟨ad', e, hb', y'⟩ := HRD.out.int hlt
                  obtain rfl := Option.some.inj e
                  have m0 : (0 : Int) ≤ (m : Int) := by omega
                  have m1 : (m : Int) < (zs.length : Int) := by omega
                  have HDK := hid (show dg zs m = zs[m] by unfold dg; rw [dif_pos hlt])
                  have PS := hid (placeTo_succ zs i m)
                  have PL := placeTo_le zs i m
                  have HB := hid (show aheadB zs i m = (decide (dg zs i < dg zs m) || (decide (dg zs m = dg zs i) && decide (m < i))) from rfl)
                  generalize hpt : placeTo zs i m = pt at *
                  have w1 : IntKind.i64.wrap ((pt : Int) + 1) = (pt : Int) + 1 := IntWalk.i64_in _ (by omega)
                  have HPT := hid hpt
                  clear hpt
                  generalize hxs : zs[i] = xs at *
                  generalize hxk : zs[m] = xk at *
                  have HX := hid (And.intro hxs hxk)
                  clear hxs hxk
                  by_cases c1 : xs < xk
                  · have HT := hid (show aheadB zs i m = true by rw [HB.out, HDS.out, HDK.out]; simp [c1])
                    go_wp2
                    go_quiet (fail)
                    go_wp2
                    exact ⟨⟨m + 1, by omega, by go_num, by rw [PS.out, HT.out]; simp, _, rfl⟩, by simp only [intOf]; omega⟩
                  · by_cases c2 : xk = xs
                    · by_cases c3 : m < i
                      · have HT := hid (show aheadB zs i m = true by rw [HB.out, HDS.out, HDK.out]; simp [c2, c3])
                        have c2' : (xk == xs) = true := by simp [c2]
                        have c3' : (m : Int) < (i : Int) := by omega
                        clear c2
                        go_wp2
                        go_quiet (fail)
                        go_wp2
                        exact ⟨⟨m + 1, by omega, by go_num, by rw [PS.out, HT.out]; simp, _, rfl⟩, by simp only [intOf]; omega⟩
                      · have HT := hid (show aheadB zs i m = false by rw [HB.out, HDS.out, HDK.out]; simp [c2]; omega)
                        have c2' : (xk == xs) = true := by simp [c2]
                        have c3' : ¬ (m : Int) < (i : Int) := by omega
                        clear c2
                        go_wp2
                        go_quiet (fail)
                        go_wp2
                        exact ⟨⟨m + 1, by omega, by go_num, by rw [PS.out, HT.out]; simp, _, rfl⟩, by simp only [intOf]; omega⟩
                    · have HT := hid (show aheadB zs i m = false by rw [HB.out, HDS.out, HDK.out]; simp [c2]; omega)
                      have c2' : (xk == xs) = false := by simp [c2]
                      clear c2
                      go_wp2
                      go_quiet (fail)
                      go_wp2
                      exact ⟨⟨m + 1, by omega, by go_num, by rw [PS.out, HT.out]; simp, _, rfl⟩, by simp only [intOf]; omega⟩
                · obtain rfl : m = zs.length := by omega
                  have hpl : placeTo zs i zs.length < zs.length := placeTo_lt _ hin
                  have TG := KT2.out.grow ((Grow.refl w8).drewN q1)
                  have ri := TG.row hin
                  obtain ⟨A5, m5, c5, x5, n5, _, _⟩ := (TG.wins i hin).at_ hpl
                  have SA5 := hid (Small_nat (.slice A5 m5 c5) 1 (w8.drewN q1) (by
                    have h5 : IsNat (w8.drewN q1) (.slice A5 m5 c5) (wsum l (indP i (placeTo zs i zs.length)) 0 zs) := n5.1
                    rw [show wsum l (indP i (placeTo zs i zs.length)) 0 zs = 1 from by rw [wsum]; unfold indP placeN; rw [if_pos rfl]] at h5
                    exact h5) (by omega))
                  clear TG n5 y0
                  generalize placeTo zs i zs.length = pt at *
                  have p0 : (0 : Int) ≤ (pt : Int) := by omega
                  have p1 : (pt : Int) < (zs.length : Int) := by omega
                  go_wp2_with (go_at_call 15; refine SA5.out.mono ?_; rintro e w' ⟨rfl, rfl⟩)
                  exact ⟨⟨i + 1, by omega, by go_num, q1, rfl⟩, by simp only [intOf]; omega⟩
end Go.Proofs.Ytomgilkchlediaa
