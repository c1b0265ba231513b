/-
  The walk of the sum of two naturals.
-/
import Derived.Test.YtomgilkchlediaaGreatDoorNatA
namespace Go.Proofs.YtomgilkchlediaaGreatDoor
open Go.RowKit

theorem sum_aux (A B : Option Addr) (c d : Nat) (xs ys : List Int) (sw : Bool) (w : World) (hsw : sw = true → ys.length < xs.length) (hle : ys.length ≤ xs.length)
    (hcx : Canon xs) (hcy : Canon ys) (hc : xs.length ≤ c) (hm : c ≤ maxLen) (hr : Rd w A (ints xs)) (hd : ys.length ≤ d) (hm' : d ≤ maxLen) (hs : Rd w B (ints ys)) (hl : xs.length ≤ 100000000000) :
    Calls Tryz.prog 44 (if sw then #[.slice B ys.length d, .slice A xs.length c] else #[.slice A xs.length c, .slice B ys.length d]) w (NatRes w (val xs + val ys)) := by
  unfold maxLen at hm hm'
  have HX := hid hcx
  have HY := hid hcy
  clear hcx hcy
  cases sw
  case' false => have hlt : decide (xs.length < ys.length) = false := by simp; omega
  case' true => have hlt := hsw rfl
  all_goals
    clear hsw
    simp only [Bool.false_eq_true, ↓reduceIte]
    go_enter Tryz.func44, Tryz.ntmps44
    go_wp2
    go_loopw [5, 6, 20] (fun v cr i wr => ∃ k os cv, k ≤ xs.length ∧ i = .int .i64 k ∧ cr = .int .i64 cv ∧ 0 ≤ cv ∧ cv ≤ 1 ∧ Own w wr v os ∧ Grow w wr ∧ Dig os ∧ os.length = k ∧ val os + radix k * cv = val (xs.take k) + val (ys.take k)) (fun _ _ i _ => xs.length - (intOf i).toNat)
    case atStart => exact ⟨0, [], 0, Nat.zero_le _, rfl, rfl, by omega, by omega, Own.nil _ _, Grow.refl _, Dig.nil, rfl, by simp [val]⟩
    case round =>
      obtain ⟨k, os, cv, hk, rfl, rfl, hc0, hc1, hown, hg, hdos, hlen, hv⟩ := hrel
      have HV := hid hv
      have HL := hid hlen
      have hll : os.length ≤ 100000000000 := by omega
      clear hv hlen
      have fin : ∀ wx, xs.length ≤ k → (∀ zs, Canon zs → val zs = val xs + val ys → ∀ v, Own w wx v zs → Grow w wx → NatRes w (val xs + val ys) (.returned v) wx) := fun wx _ zs h1 h2 v h3 h4 => ⟨v, rfl, ⟨⟨zs, h1, h2, h3.is⟩, h3.tag⟩, h4⟩
      have FIN := hid fin
      clear fin
      by_cases hlt2 : k < xs.length
      · obtain ⟨ad, rfl, hb, hx⟩ := (hr.grow hg).int hlt2
        have bx := HX.out.1.at_ hlt2
        have step := fun n hn => sum_step (xs := xs) (ys := ys) (n := n) HL.out HV.out hn
        have STEP := hid step
        clear step
        by_cases hlt3 : k < ys.length
        · obtain ⟨ad', rfl, hb', hx'⟩ := (hs.grow hg).int hlt3
          have byy := HY.out.1.at_ hlt3
          go_wp2_with (first
            | (go_at_call 74; refine (split_any _ _ (by omega) (by omega)).mono ?_; rintro e w' ⟨rfl, rfl⟩)
            | (at_builtin; refine wpList_append_int w wr _ rfl (.tmp 42) (.tmp 44) _ rfl Tryz.underlying24 _ os rfl hown rfl (by omega) hg ?_; intro v' w' hown' hg'))
          refine ⟨⟨k + 1, _, _, by omega, by go_num, rfl, by omega, by omega, hown', hg', hdos.snoc (by omega) (by omega), by simp [HL.out], STEP.out (xs[k] + ys[k]) (by rw [dif_pos hlt2, dif_pos hlt3])⟩, by simp [intOf] <;> omega⟩
        · go_wp2_with (first
            | (go_at_call 74; refine (split_any _ _ (by omega) (by omega)).mono ?_; rintro e w' ⟨rfl, rfl⟩)
            | (at_builtin; refine wpList_append_int w wr _ rfl (.tmp 42) (.tmp 44) _ rfl Tryz.underlying24 _ os rfl hown rfl (by omega) hg ?_; intro v' w' hown' hg'))
          refine ⟨⟨k + 1, _, _, by omega, by go_num, rfl, by omega, by omega, hown', hg', hdos.snoc (by omega) (by omega), by simp [HL.out], STEP.out xs[k] (by rw [dif_pos hlt2, dif_neg hlt3]; omega)⟩, by simp [intOf] <;> omega⟩
      · by_cases hcv : 0 < cv
        · go_wp2_with (at_builtin; refine wpList_append_int w wr _ rfl (.tmp 50) (.tmp 52) _ rfl Tryz.underlying24 _ os rfl hown rfl (by omega) hg ?_; intro v' w' hown' hg')
          go_ret
          refine FIN.out _ (by omega) _ (canon_of_pos (hdos.snoc (by omega) (by omega)) (by omega)) ?_ _ hown' hg'
          have h := HV.out
          rw [val_take_all (by omega), val_take_all (by omega)] at h
          rw [val_snoc, HL.out]; exact h
        · obtain rfl : cv = 0 := by omega
          go_wp2
          go_ret
          have h := HV.out
          rw [val_take_all (by omega), val_take_all (by omega), Int.mul_zero, Int.add_zero] at h
          exact FIN.out _ (by omega) _ (sum_end hdos HX.out HY.out.1 (by have := HL.out; omega) h) h _ hown hg

theorem sum_any (v1 v2 : Value) (a b : Int) (w : World) (h1 : IsNat w v1 a) (h2 : IsNat w v2 b) (ha : Small a) (hb : Small b) :
    Calls Tryz.prog 44 #[v1, v2] w (NatRes w (a + b)) := by
  obtain ⟨xs, hcx, rfl, A, c, rfl, hc, hm, hr⟩ := h1
  obtain ⟨ys, hcy, rfl, B, d, rfl, hd, hm', hs⟩ := h2
  have lx := ha.len hcx
  have ly := hb.len hcy
  rcases Nat.lt_or_ge xs.length ys.length with hlt | hge
  · rw [Int.add_comm]
    exact sum_aux B A d c ys xs true w (fun _ => hlt) (by omega) hcy hcx hd hm' hs hc hm hr (by omega)
  · exact sum_aux A B c d xs ys false w (by simp) hge hcx hcy hc hm hr hd hm' hs (by omega)
end Go.Proofs.YtomgilkchlediaaGreatDoor
