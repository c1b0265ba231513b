/-
  Walks of the reference's naturals: cut, nat, digit, add.
-/
import Derived.Test.YtomgilkchlediaaGreatDoorNatA
import Derived.Deep.RegionWith
namespace Go.Proofs.YtomgilkchlediaaGreatDoor
open Go.RowKit

theorem cut_any (v : Value) (zs : List Int) (w : World) (h : IsInts w v zs) (hd : Dig zs) :
    Calls Tryz.prog 51 #[v] w (TrimRes w v (val zs)) := by
  obtain ⟨A, c, rfl, hc, hm, hr⟩ := h
  unfold maxLen at hm
  go_enter Tryz.func51, Tryz.ntmps51
  go_wp2
  go_loop [0] (fun v => ∃ k, k ≤ zs.length ∧ v = .slice A k c ∧ zs.drop k = List.replicate (zs.length - k) 0) (fun v => sliceLen v)
  case atStart => exact ⟨zs.length, Nat.le_refl _, rfl, by simp⟩
  case round =>
    obtain ⟨k, hk, rfl, hz⟩ := hrel
    have hval : val zs = val (zs.take k) := by
      conv => lhs; rw [← List.take_append_drop k zs, val_append, hz, val_zeros]
      simp
    have HZ := hid hz
    have HV := hid hval
    clear hz hval
    have fin : (hl : ∀ h : 0 < (zs.take k).length, (zs.take k)[(zs.take k).length - 1] ≠ 0) → TrimRes w (.slice A zs.length c) (val zs) (.returned (.slice A k c)) w := fun hl =>
      ⟨_, rfl, ⟨⟨zs.take k, canon_of_last (hd.take k) hl, HV.out.symm, A, c, by rw [List.length_take, Nat.min_eq_left hk], by rw [List.length_take]; omega, by unfold maxLen; exact hm, by rw [ints, List.map_take]; exact hr.take k⟩, Tag.cut⟩, rfl⟩
    have FIN := hid fin
    clear fin
    by_cases h0 : 0 < k
    · obtain ⟨ad, rfl, hb, hx⟩ := hr.int (k := k - 1) (by omega)
      by_cases he : zs[k - 1] = 0
      · have he' : (zs[k - 1] == 0) = true := by simp [he]
        have HE := hid he
        clear he
        go_wp2
        refine ⟨⟨k - 1, by omega, rfl, ?_⟩, by simp [sliceLen]; omega⟩
        have e1 : zs.drop (k - 1) = zs[k - 1] :: zs.drop (k - 1 + 1) := List.drop_eq_getElem_cons (by omega)
        rw [e1, show k - 1 + 1 = k from by omega, HZ.out, HE.out, show zs.length - (k - 1) = (zs.length - k) + 1 from by omega, List.replicate_succ]
      · have he' : (zs[k - 1] == 0) = false := by simp [he]
        go_wp2
        go_ret
        exact FIN.out fun _ => by simp only [List.length_take, Nat.min_eq_left hk, List.getElem_take]; exact he
    · go_wp2
      go_ret
      exact FIN.out fun hh => by simp at hh; omega

theorem digit_any (A : Option Addr) (c : Nat) (zs : List Int) (k : Nat) (w : World) (_hc : zs.length ≤ c) (_hm : c ≤ maxLen) (hr : Rd w A (ints zs)) :
    Calls Tryz.prog 75 #[.slice A zs.length c, .int .i64 (k : Int)] w (Same w (.int .i64 (dg zs k))) := by
  by_cases h : k < zs.length
  · obtain ⟨ad, rfl, hb, hx⟩ := hr.int h
    rw [dg_in h]
    go_enter Tryz.func75, Tryz.ntmps75
    go_wp2
    go_ret
    exact ⟨rfl, rfl⟩
  · rw [dg_out (by omega)]
    go_enter Tryz.func75, Tryz.ntmps75
    go_wp2
    go_ret
    exact ⟨rfl, rfl⟩

theorem add_aux (A B : Option Addr) (c d : Nat) (xs ys : List Int) (w : World) (hcx : Dig xs) (hcy : Dig ys) (hc : xs.length ≤ c) (hm : c ≤ maxLen) (hr : Rd w A (ints xs)) (hd : ys.length ≤ d) (hm' : d ≤ maxLen) (hs : Rd w B (ints ys))
    (hl : xs.length ≤ 100000) (hl' : ys.length ≤ 100000) :
    Calls Tryz.prog 46 #[.slice A xs.length c, .slice B ys.length d] w (NatRes w (val xs + val ys)) := by
  have HX := hid hcx
  have HY := hid hcy
  have D1 := fun W (k : Nat) (hg : Grow w W) => digit_any A c xs k W hc hm (hr.grow hg)
  have D2 := fun W (k : Nat) (hg : Grow w W) => digit_any B d ys k W hd hm' (hs.grow hg)
  have HD1 := hid D1
  have HD2 := hid D2
  unfold maxLen at hm hm'
  clear hcx hcy D1 D2
  obtain ⟨M, hM1, hM2, hM3, hM4⟩ : ∃ M : Nat, xs.length ≤ M ∧ ys.length ≤ M ∧ (M ≤ xs.length ∨ M ≤ ys.length) ∧ M ≤ 100000 := ⟨max xs.length ys.length, by omega, by omega, by omega, by omega⟩
  go_enter Tryz.func46, Tryz.ntmps46
  go_wp2
  go_loopw [5, 6, 7] (fun v cr i wr => ∃ (k : Nat) (os : List Int) (cv : Int), k + cv ≤ M + 1 ∧ i = .int .i64 k ∧ cr = .int .i64 cv ∧ 0 ≤ cv ∧ cv ≤ 1 ∧ Own w wr v os ∧ Grow w wr ∧ Dig os ∧ os.length = k ∧ val os + radix k * cv = val (xs.take k) + val (ys.take k)) (fun _ cr i _ => 2 * (M - (intOf i).toNat) + (intOf cr).toNat)
  case atStart => exact ⟨0, [], 0, by omega, rfl, rfl, by omega, by omega, Own.nil _ _, Grow.refl _, Dig.nil, rfl, by simp [val]⟩
  case round =>
    obtain ⟨k, os, cv, hk, rfl, rfl, hc0, hc1, hown, hg, hdo, hlo, hv⟩ := hrel
    have HV := hid hv
    have HL := hid hlo
    have hll : os.length ≤ 200000 := by omega
    have step := fun n hn => sum_step (xs := xs) (ys := ys) (n := n) HL.out HV.out hn
    have STEP := hid step
    have b1 := HX.out.dg k
    have b2 := HY.out.dg k
    have hst : Dig os ∧ True := ⟨hdo, trivial⟩
    clear hv hlo step
    by_cases hgo : k < xs.length ∨ k < ys.length ∨ 0 < cv
    · have hex : k < M → dg xs k + dg ys k + cv ≤ 1999999999 := by omega
      have hz : M ≤ k → dg xs k = 0 ∧ dg ys k = 0 := fun h => ⟨dg_out (by omega), dg_out (by omega)⟩
      have HZ := hid hz
      have hkM : k ≤ M := by omega
      clear hz
      have t1 : k < xs.length ∨ xs.length ≤ k := by omega
      have t2 : k < ys.length ∨ ys.length ≤ k := by omega
      rcases t1 with t1 | t1 <;> rcases t2 with t2 | t2
      case' inr.inr => have t3 : 0 < cv := by omega
      all_goals
        clear hgo
        go_wp2_with (first
          | (go_at_call_of 75 (Value.slice A xs.length c); refine (HD1.out _ k hg).mono ?_; rintro e w' ⟨rfl, rfl⟩)
          | (go_at_call_of 75 (Value.slice B ys.length d); refine (HD2.out _ k hg).mono ?_; rintro e w' ⟨rfl, rfl⟩)
          | (at_builtin; refine wpList_append_int w wr _ rfl (.tmp 34) (.tmp 37) _ rfl Tryz.underlying24 _ os rfl hown rfl (by omega) hg ?_; intro v' w' hown' hg'))
      all_goals
        have hq : 0 ≤ (dg xs k + dg ys k + cv) / 1000000000 ∧ (dg xs k + dg ys k + cv) / 1000000000 ≤ 1 ∧ (k < M ∨ (k = M ∧ (dg xs k + dg ys k + cv) / 1000000000 = 0 ∧ cv = 1)) := by
          rcases Nat.lt_or_ge k M with h | h
          · omega
          · have := HZ.out h
            omega
        have st := STEP.out (dg xs k + dg ys k) rfl
        refine ⟨⟨k + 1, _, _, ?_, by go_num, rfl, hq.1, hq.2.1, hown', hg', hdo.snoc (by omega) (by omega), by simp [HL.out], st⟩, ?_⟩
        · omega
        · simp only [intOf]
          omega
    · go_wp2_with (go_at_call 51; refine (cut_any _ os _ hown.is hdo).mono ?_; rintro e w' ⟨v, rfl, hn, rfl⟩)
      go_ret
      have h := HV.out
      rw [val_take_all (by omega), val_take_all (by omega), show cv = 0 from by omega, Int.mul_zero, Int.add_zero] at h
      exact ⟨v, rfl, by rw [← h]; exact trim_natF hn hown.tag, hg⟩
end Go.Proofs.YtomgilkchlediaaGreatDoor
