/-
  Walks: division by a small number, binomials.
-/
import Derived.Test.YtomgilkchlediaaGreatDoorNatB
import Derived.Test.YtomgilkchlediaaGreatDoorNatC
import Derived.Test.YtomgilkchlediaaGreatDoorNatD
import Derived.Test.YtomgilkchlediaaGreatDoorBin
import Derived.StillTailTactics
namespace Go.Proofs.YtomgilkchlediaaGreatDoor
open Go.RowKit

theorem under_any (v : Value) (a b : Int) (w : World) (h : IsNat w v a) (hs : Small a) (hb0 : 0 < b) (hb1 : b ≤ 1000) :
    Calls Tryz.prog 81 #[v, .int .i64 b] w (NatRes w (a / b)) := by
  obtain ⟨xs, hcx, rfl, A, c, rfl, hc, hm, hr⟩ := h
  have lx := hs.len hcx
  unfold maxLen at hm
  have HX := hid hcx.1
  clear hcx hs
  go_enter Tryz.func81, Tryz.ntmps81
  go_wp2_with (at_make; refine wpList_make_blk w _ rfl (.tmp 9) (.tmp 9) _ rfl 3 (.int .i64 0) 8 Tryz.underlying24 infoInt rfl _ _ _ _ xs.length rfl rfl (by omega) (by omega) (by omega) (by omega) (Grow.refl _) ?_; intro g w1 hblk hgb hgs hg1 hg1')
  go_loopw [6, 7] (fun r i wr => ∃ k os q, k ≤ xs.length ∧ i = .int .i64 ((k : Int) - 1) ∧ r = .int .i64 q ∧ 0 ≤ q ∧ q < b ∧ Blk wr g 3 (ints os) ∧ Grow w wr ∧ Dig os ∧ os.length = xs.length ∧ val (xs.drop k) = b * val (os.drop k) + q) (fun _ i _ => (intOf i + 1).toNat)
  case atStart => exact ⟨xs.length, List.replicate xs.length 0, 0, Nat.le_refl _, rfl, rfl, by omega, by omega, by simpa [ints] using hblk, hg1, Dig.zeros _, by simp, by simp [val]⟩
  case round =>
    clear hblk hg1 hg1'
    obtain ⟨k, os, q, hk, rfl, rfl, hq0, hq1, hb, hg, hdo, hlo, hv⟩ := hrel
    have HV := hid hv
    have HL := hid hlo
    have l1 : os.length ≤ xs.length := by omega
    have l2 : xs.length ≤ os.length := by omega
    clear hv hlo
    by_cases h0 : 0 < k
    · obtain ⟨j, rfl⟩ : ∃ j, k = j + 1 := ⟨k - 1, by omega⟩
      have hj : j < xs.length := by omega
      obtain ⟨ad, rfl, hbx, hx⟩ := (hr.grow hg).int hj
      have hjo : j < os.length := by omega
      have hcell := hb.cell_int hjo
      have hfree := hb.free j
      have bx := HX.out.at_ hj
      have bu := under_dig hb0 ⟨hq0, hq1⟩ bx
      have it : (((j + 1 : Nat) : Int) - 1) = (j : Int) := by omega
      rw [it]
      clear it
      have i0 : (0 : Int) ≤ (j : Int) := by omega
      have i1 : (j : Int) < (xs.length : Int) := by omega
      go_wp2
      go_region
      all_goals go_wp2
      refine ⟨⟨j, os.set j _, _, by omega, rfl, rfl, bu.2.2.1, bu.2.2.2, hb.set_int j _, hg.drew.setBlk hgb j _, hdo.set j bu.1 bu.2.1, by simpa using HL.out, under_step hj HL.out HV.out⟩, by simp [intOf] <;> omega⟩
    · obtain rfl : k = 0 := by omega
      have hv : val xs / b = val os := under_end hb0 ⟨hq0, hq1⟩ (by have := HV.out; simpa using this)
      have HP := hid hv
      clear hv
      have his : IsInts wr (.slice (some ⟨g, 0, none⟩) xs.length xs.length) os := by
        rw [show xs.length = os.length from by omega]
        exact hb.is (by unfold maxLen; omega)
      go_wp2_with (go_at_call 38; refine (trim_any _ os _ his hdo).mono ?_; rintro e w' ⟨v, rfl, hn, rfl⟩)
      go_ret
      exact ⟨v, rfl, by rw [HP.out]; exact trim_natF hn hb.tag, hg⟩

set_option maxRecDepth 100000 in
theorem choose_all (n k : Int) (w : World) (hn : n ≤ 200) : Calls Tryz.prog 56 #[.int .i64 n, .int .i64 k] w (NatRes w (chooseI n k)) := by
  by_cases h1 : k < 0
  · rw [chooseI_out (.inl h1)]
    go_enter Tryz.func56, Tryz.ntmps56
    go_wp2
    go_ret
    exact ⟨_, rfl, IsNatF.nil, Grow.refl _⟩
  · by_cases h2 : n < k
    · rw [chooseI_out (.inr h2)]
      go_enter Tryz.func56, Tryz.ntmps56
      go_wp2
      go_ret
      exact ⟨_, rfl, IsNatF.nil, Grow.refl _⟩
    · obtain ⟨N, rfl⟩ := Int.eq_ofNat_of_zero_le (show 0 ≤ n by omega)
      obtain ⟨K, rfl⟩ := Int.eq_ofNat_of_zero_le (show 0 ≤ k by omega)
      have hKN : K ≤ N := by omega
      have hN : N ≤ 200 := by omega
      rw [chooseI_nat]
      clear h1 h2
      have key : ∀ M : Nat, (M = K ∧ K ≤ N - K) ∨ (M = N - K ∧ N - K < K) → Calls Tryz.prog 56 #[.int .i64 (N : Int), .int .i64 (K : Int)] w (NatRes w (binom N M : Int)) := by
        intro M hM
        have hMN : M ≤ N := by omega
        rcases hM with ⟨h1, h2⟩ | ⟨h1, h2⟩
        case' inl => have hmin : (K : Int) ≤ (N : Int) - (K : Int) := by omega
        case' inr => have hmin : (N : Int) - (K : Int) < (K : Int) := by omega
        all_goals
          have hML : M ≤ K ∧ M ≤ N - K := by omega
          have hMe : (M : Int) = K ∨ (M : Int) = (N : Int) - K := by omega
          have hd : decide ((K : Int) < 0) = false := by simp <;> omega
          have HM := hid h1
          have hMi : M ≤ K ∧ M ≤ N - K ∧ (K ≤ M ∨ N - K ≤ M) := by omega
          clear h1 hMe hML
          go_enter Tryz.func56, Tryz.ntmps56
          go_wp2_with (go_at_call 80; refine (natural_any _ _ (by omega) (by omega)).mono ?_; rintro e w1 ⟨v1, rfl, hn1, hg1⟩)
          go_loopw [5, 20] (fun v i wr => ∃ k, k ≤ M ∧ i = .int .i64 k ∧ IsNatF wr v (binom N k : Int) ∧ Grow w wr) (fun _ i _ => M - (intOf i).toNat)
          case atStart => exact ⟨0, Nat.zero_le _, rfl, by rw [binom_zero]; exact hn1, hg1⟩
          case round =>
            clear hn1 hg1
            obtain ⟨k, hk, rfl, hn1, hg1⟩ := hrel
            by_cases hlt : k < M
            · have hs1 : Small (binom N k : Int) := small_of_lit (binom_small k hN)
              have hs2 : Small ((N : Int) - (k : Int)) := small_of_lit (by omega)
              have hs3 : Small ((binom N k : Int) * ((N : Int) - (k : Int))) := by
                refine small_of_radix 8 (by omega) ?_
                have h1 := binom_small k hN
                have : (binom N k : Int) * ((N : Int) - (k : Int)) ≤ 1000000000000000000000000000000000000000000000000000000000000000 * 200 := Int.mul_le_mul (by omega) (by omega) (by omega) (by omega)
                simp only [radix]
                omega
              have he : ((binom N k : Int) * ((N : Int) - (k : Int))) / ((k : Int) + 1) = (binom N (k + 1) : Int) := by rw [choose_step, if_pos (by omega)]
              have HE := hid he
              have H1 := hid hs1
              have H2 := hid hs2
              have H3 := hid hs3
              clear he hs1 hs2 hs3
              go_wp2_with (first
                | (go_at_call 80; refine (natural_any _ _ (by omega) (by omega)).mono ?_; rintro e w2 ⟨v2, rfl, hn2, hg2⟩)
                | (go_at_call 47; refine (product_any _ _ _ _ _ (hn1.1.grow hg2) hn2.1 H1.out H2.out).mono ?_; rintro e w3 ⟨v3, rfl, hn3, hg3⟩)
                | (go_at_call 81; refine (under_any _ _ _ _ hn3.1 H3.out (by omega) (by omega)).mono ?_; rintro e w4 ⟨v4, rfl, hn4, hg4⟩))
              exact ⟨⟨k + 1, by omega, by go_num, by rw [← HE.out]; exact hn4, ((hg1.trans hg2).trans hg3).trans hg4⟩, by simp [intOf] <;> omega⟩
            · obtain rfl : k = M := by omega
              go_wp2
              go_ret
              exact ⟨_, rfl, hn1, hg1⟩
      rcases Nat.le_total K (N - K) with h | h
      · exact key K (.inl ⟨rfl, h⟩)
      · rw [← binom_symm hKN]
        rcases Nat.lt_or_ge (N - K) K with h' | h'
        · exact key (N - K) (.inr ⟨rfl, h'⟩)
        · have e : N - K = K := by omega
          rw [e]
          exact key K (.inl ⟨rfl, by omega⟩)

theorem choose_any (n k : Int) (w : World) (hn : n ≤ 200) (_ : -9223372036854775000 ≤ k) : Calls Tryz.prog 56 #[.int .i64 n, .int .i64 k] w (NatRes w (chooseI n k)) := choose_all n k w hn
theorem binomial_all (n k : Int) (w : World) : Calls Tryz.prog 25 #[.int .i64 n, .int .i64 k] w (NatRes w (if n < 0 ∨ 200 < n then 0 else chooseI n k)) := by
  by_cases h : n < 0 ∨ 200 < n
  · rw [if_pos h]
    rcases h with h | h
    · go_enter Tryz.func25, Tryz.ntmps25
      go_wp2
      go_ret
      exact ⟨_, rfl, IsNatF.nil, Grow.refl _⟩
    · go_enter Tryz.func25, Tryz.ntmps25
      go_wp2
      go_ret
      exact ⟨_, rfl, IsNatF.nil, Grow.refl _⟩
  · rw [if_neg h]
    have h1 : ¬ n < 0 := by omega
    have h2 : ¬ 200 < n := by omega
    clear h
    go_enter Tryz.func25, Tryz.ntmps25
    go_wp2_with (go_at_call 56; refine (choose_all _ _ _ (by omega)).mono ?_; rintro e w1 ⟨v1, rfl, hn1, hg1⟩)
    go_ret
    exact ⟨_, rfl, hn1, hg1⟩
theorem binomial_any (n k : Int) (w : World) (_ : -9223372036854775000 ≤ k) : Calls Tryz.prog 25 #[.int .i64 n, .int .i64 k] w (NatRes w (if n < 0 ∨ 200 < n then 0 else chooseI n k)) := binomial_all n k w
end Go.Proofs.YtomgilkchlediaaGreatDoor
