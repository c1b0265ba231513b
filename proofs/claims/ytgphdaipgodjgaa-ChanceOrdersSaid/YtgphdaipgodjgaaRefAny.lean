/-
  The walk of the reference's anyOf.
-/
import Derived.Test.YtgphdaipgodjgaaRefD
import Derived.Test.YtgphdaipgodjgaaVand
namespace Go.Proofs.Ytgphdaipgodjgaa
open Go.RowKit

/-- What anyOf has summed up before i. -/
def anyS (M R n i : Nat) : Int := (vandS M R n i : Int) - (binom R n : Int)
theorem anyS_one (M R n : Nat) : anyS M R n 1 = 0 := by simp [anyS, vandS, binom_zero]
theorem anyS_step {M R n i : Nat} (h : i ≤ n) : anyS M R n i + chooseI M i * chooseI R ((n : Int) - i) = anyS M R n (i + 1) := by
  rw [show (n : Int) - (i : Int) = ((n - i : Nat) : Int) by omega, chooseI_nat, chooseI_nat]
  unfold anyS
  rw [vandS]
  simp only [Int.natCast_add, Int.natCast_mul]
  omega
theorem anyS_end (M R n : Nat) : anyS M R n (n + 1) = anyWays ((M + R : Nat) : Int) M n := by
  unfold anyS anyWays
  rw [vand, show ((M + R : Nat) : Int) - (M : Int) = (R : Int) by omega, chooseI_nat, chooseI_nat]
theorem anyS_small {M R n i : Nat} (h : M + R ≤ 200) (hi : i ≤ n) : Small (anyS M R n i) ∧ Small (chooseI M i) ∧ Small (chooseI R ((n : Int) - i)) ∧ Small (chooseI M i * chooseI R ((n : Int) - i)) := by
  have h1 := binom_small n h
  have h2 := vand M R n
  have h3 := vandS_mono M R n (show i ≤ n + 1 by omega)
  have h4 := vandS_mono M R n (show i + 1 ≤ n + 1 by omega)
  rw [vandS] at h4
  refine ⟨small_of_lit (by unfold anyS; omega), small_of_lit (chooseI_lt _ (by omega)), small_of_lit (chooseI_lt _ (by omega)), small_of_lit ?_⟩
  rw [show (n : Int) - (i : Int) = ((n - i : Nat) : Int) by omega, chooseI_nat, chooseI_nat]
  have e : (binom M i : Int) * (binom R (n - i) : Int) = ((binom M i * binom R (n - i) : Nat) : Int) := by simp
  rw [e]
  omega

set_option maxRecDepth 100000 in
theorem anyOf_any (v1 v2 : Value) (u ks : List Int) (n : Nat) (w : World) (h1 : IsInts w v1 u) (h2 : IsInts w v2 ks) (hu : Within 0 4 u) (hl : u.length ≤ 34) (hk : risErr u.length (-1) ks = 0) (hn : (n : Int) ≤ sumI u) :
    Calls Try.prog 73 #[v1, v2, .int .i64 (n : Int)] w (OddsVal w (anyWays (sumI u) (sumAt u ks) n) (chooseI (sumI u) n)) := by
  have hall := fun W (hg : Grow w W) => rtotal_any v1 u W (h1.grow hg) (fun z hz => by have := hu z hz; omega) (by omega)
  have hs := hu.sum
  have hs1 : 0 ≤ sumI u ∧ sumI u ≤ 136 := by omega
  have hat := sumAt_le (fun z hz => (hu z hz).1) hk (by omega)
  have hat0 : ∀ k, 0 ≤ sumAt u (ks.take k) ∧ sumAt u (ks.take k) ≤ 4 * k := by
    intro k
    have hw : Within 0 4 ((ks.take k).map fun z => u.getD z.toNat 0) := fun z hz => by
      obtain ⟨y, hy, rfl⟩ := List.mem_map.1 hz
      have hy' := ris_in hk y (List.mem_of_mem_take hy)
      rw [List.getD_eq_getElem?_getD, List.getElem?_eq_getElem (show y.toNat < u.length by omega)]
      exact hu _ (List.getElem_mem _)
    have h3 := hw.sum
    rw [List.length_map, List.length_take] at h3
    have e : sumI ((ks.take k).map fun z => u.getD z.toNat 0) = sumAt u (ks.take k) := rfl
    rw [e] at h3
    omega
  obtain ⟨A, c, rfl, hc, hm, hr⟩ := h1
  obtain ⟨B, d, rfl, hd, hm', hrk⟩ := h2
  unfold maxLen at hm hm'
  have HU := hid hu
  have HK := hid hk
  have HAT := hid hat
  have HA0 := hid hat0
  obtain ⟨N, hN⟩ := Int.eq_ofNat_of_zero_le hs1.1
  rw [hN] at hall hn
  have HA := hid hall
  have HN := hid hN
  have hN1 : N ≤ 136 := by omega
  have hksl : ks.length ≤ 34 := by have := ris_len hk (by omega); omega
  have g0 : Grow w (w.alloc (.cells #[.slice none 0 0, .slice none 0 0] 25)) := (Grow.refl _).alloc _
  clear hall hu hk hat hat0 hs hN hs1
  go_enter Try.func73, Try.ntmps73
  go_wp2_with fail
  refine (HA.out _ g0).mono ?_
  rintro e w1 ⟨rfl, rfl⟩
  go_wp2_with fail
  refine (triangle_any N _ (by omega)).mono ?_
  rintro e w1 ⟨vT, rfl, kT, hg1⟩
  have h1 := g0.trans hg1
  have KT := hid fun W (hg : Grow w1 W) => kT.grow hg
  clear kT
  go_wp2
  go_loop [8, 9] (fun o i => ∃ k : Nat, k ≤ ks.length ∧ i = .int .i64 (k : Int) ∧ o = .int .i64 (sumAt u (ks.take k))) (fun _ i => ks.length - (intOf i).toNat)
  case atStart => exact ⟨0, Nat.zero_le _, rfl, by simp [sumAt, sumI]⟩
  case round =>
    obtain ⟨k, hk, rfl, rfl⟩ := hrel
    obtain ⟨a0, a1⟩ := HA0.out k
    by_cases hlt : k < ks.length
    · obtain ⟨ad, rfl, hb, hx⟩ := (hrk.grow h1).int hlt
      have hin := ris_in HK.out ks[k] (List.getElem_mem hlt)
      have hil : ks[k].toNat < u.length := by omega
      obtain ⟨ad', rfl, hb', hx'⟩ := (hr.grow h1).int hil
      have bu := HU.out.at_ hil
      have HS := hid (sumAt_take u ks hlt)
      have HG := hid (show u.getD ks[k].toNat 0 = u[ks[k].toNat] by rw [List.getD_eq_getElem?_getD, List.getElem?_eq_getElem hil]; rfl)
      go_wp2
      exact ⟨⟨k + 1, by omega, by go_num, by rw [HS.out, HG.out]⟩, by simp only [intOf]; omega⟩
    · have e : ks.take k = ks := List.take_of_length_le (by omega)
      obtain ⟨a2, a3⟩ := HAT.out
      have a4 : sumAt u ks ≤ N := by rw [← HN.out]; simpa using a3
      have a5 : 0 ≤ sumAt u ks := a2
      rw [e]
      rw [HN.out]
      clear a2 a0 a1 HA0 HAT
      generalize sumAt u ks = M at *
      obtain ⟨M, rfl⟩ := Int.eq_ofNat_of_zero_le a5
      obtain ⟨R, rfl⟩ : ∃ R, N = M + R := ⟨N - M, by omega⟩
      have HE := hid (anyS_end M R n)
      clear e a3
      go_wp2
      go_loopw [10, 11] (fun v i wr => ∃ i' : Nat, 1 ≤ i' ∧ i' ≤ n + 1 ∧ i = .int .i64 (i' : Int) ∧ IsNatF wr v (anyS M R n i') ∧ Grow w1 wr) (fun _ i _ => n + 1 - (intOf i).toNat)
      case atStart => exact ⟨1, by omega, by omega, rfl, by rw [anyS_one]; exact IsNatF.nil, Grow.refl _⟩
      case round =>
        obtain ⟨i, hi1, hi2, rfl, kv, hg⟩ := hrel
        by_cases hin : i ≤ n
        · have j1 : (i : Int) ≤ (n : Int) := by omega
          obtain ⟨s1, s2, s3, s4⟩ := anyS_small (M := M) (R := R) (n := n) (i := i) (by omega) hin
          have SS := hid (And.intro s1 (And.intro s2 (And.intro s3 s4)))
          have HST := hid (anyS_step (M := M) (R := R) hin)
          clear s1 s2 s3 s4
          obtain ⟨A5, m5, c5, rfl⟩ := kv.open_
          have f1 : IntKind.i64.wrap ((M : Int) + (R : Int) - (M : Int)) = (R : Int) := by rw [IntWalk.i64_in _ (by omega)]; omega
          have f2 : IntKind.i64.wrap ((n : Int) - (i : Int)) = (n : Int) - (i : Int) := IntWalk.i64_in _ (by omega)
          have hA2 := HA.out wr (h1.trans hg)
          rw [Int.natCast_add] at hA2
          have HA2 := hid hA2
          have KR := hid (KT.out wr hg)
          clear hA2
          go_wp2_with fail
          refine (of_any vT (M + R + 1) M (i : Int) wr KR.out (by omega)).mono ?_
          rintro e w2 ⟨⟨v3, rfl, k3⟩, rfl⟩
          obtain ⟨A6, m6, c6, rfl⟩ := k3.open_
          go_wp2_with fail
          refine HA2.out.mono ?_
          rintro e w2 ⟨rfl, rfl⟩
          go_wp2_with fail
          refine (of_any vT (M + R + 1) R ((n : Int) - (i : Int)) wr KR.out (by omega)).mono ?_
          rintro e w2 ⟨⟨v4, rfl, k4⟩, rfl⟩
          obtain ⟨A7, m7, c7, rfl⟩ := k4.open_
          go_wp2_with fail
          refine (times_any _ _ _ _ wr k3.1 k4.1 SS.out.2.1 SS.out.2.2.1).mono ?_
          rintro e w3 ⟨v5, rfl, k5, g5⟩
          obtain ⟨A8, m8, c8, rfl⟩ := k5.open_
          have AD := add_any _ _ _ _ w3 (kv.grow g5).1 k5.1 SS.out.1 SS.out.2.2.2
          rw [HST.out] at AD
          have HAD := hid AD
          clear AD
          go_wp2_with fail
          refine HAD.out.mono ?_
          rintro e w4 ⟨v6, rfl, k6, g6⟩
          go_wp2
          exact ⟨⟨i + 1, by omega, by omega, by go_num, k6, (hg.trans g5).trans g6⟩, by simp only [intOf]; omega⟩
        · obtain rfl : i = n + 1 := by omega
          rw [HE.out] at kv
          have hA2 := HA.out wr (h1.trans hg)
          have hO := of_any vT (M + R + 1) (M + R) (n : Int) wr (KT.out wr hg) (by omega)
          obtain ⟨A5, m5, c5, rfl⟩ := kv.open_
          rw [Int.natCast_add] at hA2 hO kv
          have HA2 := hid hA2
          have HO := hid hO
          have KV := hid kv
          clear hA2 hO kv
          go_wp2_with fail
          refine HA2.out.mono ?_
          rintro e w2 ⟨rfl, rfl⟩
          go_wp2_with fail
          refine HO.out.mono ?_
          rintro e w2 ⟨⟨v3, rfl, k3⟩, rfl⟩
          obtain ⟨A6, m6, c6, rfl⟩ := k3.open_
          obtain ⟨b0, q0, q1, f0, f1, bb, bg⟩ := odds_block (hg1.trans hg)
          go_wp2
          refine bodyPost_ret (v := .agg #[.slice A5 m5 c5, .slice A6 m6 c6]) (by simp [results, Try.results73, go_sem, q0, q1]) rfl ?_
          rw [HN.out, Int.natCast_add]
          exact ⟨_, rfl, ⟨_, _, rfl, KV.out.butG (bb _ _) b0 (by decide), k3.butG (bb _ _) b0 (by decide)⟩, bg _ _⟩
end Go.Proofs.Ytgphdaipgodjgaa
