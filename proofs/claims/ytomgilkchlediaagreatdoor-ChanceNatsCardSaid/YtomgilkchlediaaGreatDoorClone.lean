/-
  Walks of slices.Clone, and of the difference of two naturals.
-/
import Derived.Test.YtomgilkchlediaaGreatDoorNatF
namespace Go.Proofs.YtomgilkchlediaaGreatDoor
open Go.RowKit

def CloneRes (w : World) (zs : List Int) (e : Ending) (w' : World) : Prop := ∃ v, e = .returned v ∧ Own w w' v zs ∧ Grow w w'

theorem clone_nat (A : Option Addr) (c : Nat) (zs : List Int) (w : World) (hc : zs.length ≤ c) (_hm : c ≤ maxLen) (hr : Rd w A (ints zs)) (hl : zs.length ≤ 1000000) :
    Calls Tryz.prog 100 #[.slice A zs.length c] w (CloneRes w zs) := by
  obtain ⟨i0, hi0, hz0, hz1, hz2⟩ := info_parts infoInt
  cases A with
  | none =>
    have hz : zs = [] := by
      cases zs with
      | nil => rfl
      | cons z zs => obtain ⟨ad, h, _⟩ := hr.int (k := 0) (by simp); cases h
    subst hz
    have hq := fun W => Lib.run_eql_slice_nil (P := Tryz.prog) W 24 3 none 0 c 0 0 Tryz.underlying24
    go_enter Tryz.func100, Tryz.ntmps100
    go_wp2
    go_ret
    exact ⟨_, rfl, Own.nil _ _, Grow.refl _⟩
  | some ad =>
    have hq := fun W => Lib.run_eql_slice_nil (P := Tryz.prog) W 24 3 (some ad) zs.length c 0 0 Tryz.underlying24
    have ho : Own w (w.alloc (.cells #[] 3)) (.slice (some ⟨w.heap.size, 0, none⟩) 0 0) [] := by
      refine ⟨rfl, .inr ⟨w.heap.size, 0, #[], rfl, Nat.le_refl _, heap_alloc_new w _, Nat.le_refl _, Nat.zero_le _, rfl, rfl⟩⟩
    have hg0 : Grow w (w.alloc (.cells #[] 3)) := (Grow.refl _).alloc _
    have hcells : ∀ (j : Nat) (u : Value), (ints zs)[j]? = some u → (w.alloc (.cells #[] 3)).cell? (ad.add j) = some u := fun j u hu => by
      obtain ⟨ad', h1, _, h2⟩ := (hr.grow hg0) j u hu
      obtain rfl := Option.some.inj h1
      exact h2
    have HO := hid ho
    have HC := hid hcells
    clear ho hcells
    go_enter Tryz.func100, Tryz.ntmps100
    go_wp2_with (at_builtin; refine wpList_append_own _ rfl (.tmp 5) (.tmp 6) _ rfl w.heap.size 3 i0 _ 1 8 Tryz.underlying24 hi0 hz0 hz1 hz2 rfl (by decide) (.slice (some ⟨w.heap.size, 0, none⟩) 0 0) 0 (ints []) rfl HO.out ad zs.length c (ints zs) rfl (by simp) HC.out (ints_oneCell _ _) (by unfold maxLen; omega) (by omega) (by simp) ?_; intro v' w' hown' hg' _)
    go_ret
    refine ⟨v', rfl, ?_, hg0.own hg' (fun k hk => by simp [Value.ownBlock] at hk; omega)⟩
    unfold Own
    simpa using hown'

theorem Own.form {w0 w : World} {v : Value} {os : List Int} (h : Own w0 w v os) (hl : 0 < os.length) : ∃ g cap, v = .slice (some ⟨g, 0, none⟩) os.length cap ∧ w0.heap.size ≤ g ∧ os.length ≤ cap ∧ cap ≤ maxLen := by
  rcases h.2 with ⟨_, hn⟩ | ⟨g, cap, cur, e, hb, hh, h1, h2, _⟩
  · omega
  · exact ⟨g, cap, e, hb, h1, h2⟩
theorem Own.cell {w0 w : World} {g cap : Nat} {os : List Int} (h : Own w0 w (.slice (some ⟨g, 0, none⟩) os.length cap) os) {i : Nat} (hi : i < os.length) : w.cell? ⟨g, i, none⟩ = some (.int .i64 os[i]) := by
  rw [World.ownsRow.cellAt h i (by omega)]; simp [hi]
theorem Own.free {w0 w : World} {g n cap : Nat} {os : List Int} (h : w.ownsRow w0.heap.size 3 1 (.slice (some ⟨g, 0, none⟩) n cap) n (ints os)) (i : Nat) : w.frozen? ⟨g, i, none⟩ = false := World.ownsRow.frozenAt h i
theorem Own.set {w0 w : World} {g cap : Nat} {os : List Int} (h : Own w0 w (.slice (some ⟨g, 0, none⟩) os.length cap) os) (i : Nat) (z : Int) : Own w0 (w.setCell ⟨g, i, none⟩ (.int .i64 z)) (.slice (some ⟨g, 0, none⟩) os.length cap) (os.set i z) := by
  have h1 := (World.ownsRow.stored h i (.int .i64 z)).1
  unfold Own
  rw [ints, List.map_set, List.length_set]
  exact h1

theorem take_set_succ {os : List Int} {k : Nat} (z : Int) (h : k < os.length) : (os.set k z).take (k + 1) = os.take k ++ [z] := by
  rw [List.take_succ_eq_append_getElem (by simpa using h)]
  congr 1
  · rw [List.take_set_of_le (Nat.le_refl _)]
  · simp

theorem less_step {os xs ys : List Int} {k : Nat} {bw d r : Int} (hk : k < os.length) (hx : k < xs.length) (hv : val (os.take k) - radix k * bw = val (xs.take k) - val (ys.take k))
    (hd : d - 1000000000 * r = xs[k] - bw - dg ys k) : val ((os.set k d).take (k + 1)) - radix (k + 1) * r = val (xs.take (k + 1)) - val (ys.take (k + 1)) := by
  have e0 : val (ys.take (k + 1)) = val (ys.take k) + radix k * dg ys k := val_take_add k
  rw [take_set_succ d hk, val_snoc, val_take_succ xs k hx, e0, List.length_take, Nat.min_eq_left (by omega)]
  simp only [radix]
  grind

set_option maxRecDepth 100000 in
theorem lessN_any (v1 v2 : Value) (a b : Int) (w : World) (h1 : IsNat w v1 a) (h2 : IsNat w v2 b) (hsa : Small a) (hab : b ≤ a) :
    Calls Tryz.prog 79 #[v1, v2] w (NatRes w (a - b)) := by
  obtain ⟨xs, hcx, rfl, A, c, rfl, hc, hm, hr⟩ := h1
  obtain ⟨ys, hcy, rfl, B, d, rfl, hd, hm', hs⟩ := h2
  have lx := hsa.len hcx
  have hyx := length_le_of_val hcy hcx.1 hab
  have hcl := clone_nat A c xs w hc hm hr (by omega)
  unfold maxLen at hm hm'
  have HX := hid hcx.1
  have HY := hid hcy.1
  have HC := hid hcl
  have HAB := hid hab
  clear hcx hcy hcl hsa hab
  go_enter Tryz.func79, Tryz.ntmps79
  go_wp2_with fail
  refine HC.out.mono ?_
  rintro e w1 ⟨v, rfl, ho1, hg1⟩
  obtain ⟨A1, n1, c1, rfl, hn1⟩ : ∃ A1 n1 c1, v = .slice A1 n1 c1 ∧ n1 = xs.length := by
    obtain ⟨A1, c1, rfl, _⟩ := ho1.is
    exact ⟨A1, _, c1, rfl, rfl⟩
  subst hn1
  go_wp2
  go_loopw [6, 13] (fun bo i wr => ∃ (k : Nat) (os : List Int) (bw : Int), k ≤ xs.length ∧ i = .int .i64 (k : Int) ∧ bo = .int .i64 bw ∧ 0 ≤ bw ∧ bw ≤ 1 ∧ Own w wr (.slice A1 xs.length c1) os ∧ Grow w wr ∧ Dig os ∧ os.length = xs.length ∧ (∀ j (h : j < os.length) (h' : j < xs.length), k ≤ j → os[j] = xs[j]) ∧ val (os.take k) - radix k * bw = val (xs.take k) - val (ys.take k)) (fun _ i _ => xs.length - (intOf i).toNat)
  case atStart => exact ⟨0, xs, 0, Nat.zero_le _, rfl, rfl, by omega, by omega, ho1, hg1, HX.out, rfl, fun j h h' _ => rfl, by simp [val]⟩
  case round =>
    clear ho1 hg1
    obtain ⟨k, os, bw, hk, rfl, rfl, b0, b1, hown, hg, hdo, hlo, hsame, hv⟩ := hrel
    have HV := hid hv
    have HS := hid hsame
    have HL := hid hlo
    have l1 : os.length ≤ xs.length := by omega
    have l2 : xs.length ≤ os.length := by omega
    clear hv hsame
    by_cases hlt : k < xs.length
    · obtain ⟨g, cap, e1, hgb, hcap, hcapm⟩ := hown.form (by omega)
      obtain ⟨rfl, _, rfl⟩ : A1 = some ⟨g, 0, none⟩ ∧ xs.length = os.length ∧ c1 = cap := by
        injection e1 with e1 e2 e3
        exact ⟨e1, e2, e3⟩
      rw [← hlo] at hown
      have hko : k < os.length := by omega
      have hcell := hown.cell hko
      have hfree := Own.free hown k
      rw [HS.out k hko hlt (Nat.le_refl _)] at hcell
      have bx := HX.out.at_ hlt
      have byy := HY.out.dg k
      have step := fun d r hd => less_step (d := d) (r := r) (ys := ys) hko hlt HV.out hd
      have STEP := hid step
      unfold maxLen at hcapm
      clear step e1 hlo
      by_cases hky : k < ys.length
      · obtain ⟨ad, rfl, hb, hy⟩ := (hs.grow hg).int hky
        rw [dg_in hky] at byy
        by_cases hneg : xs[k] - bw - ys[k] < 0
        · go_wp2
          refine ⟨⟨k + 1, os.set k (xs[k] - bw - ys[k] + 1000000000), 1, by omega, by go_num, rfl, by omega, by omega, ?_, hg.setBlk hgb k _, hdo.set k (by omega) (by omega), by simpa using HL.out, ?_, STEP.out _ _ ?_⟩, by simp only [intOf]; omega⟩
          · have h := hown.set k (xs[k] - bw - ys[k] + 1000000000)
            rw [HL.out] at h
            exact h
          · intro j h h' hj
            rw [List.getElem_set_ne (by omega)]
            exact HS.out j (by simpa using h) h' (by omega)
          · rw [dg_in hky]; omega
        · go_wp2
          refine ⟨⟨k + 1, os.set k (xs[k] - bw - ys[k]), 0, by omega, by go_num, rfl, by omega, by omega, ?_, hg.setBlk hgb k _, hdo.set k (by omega) (by omega), by simpa using HL.out, ?_, STEP.out _ _ ?_⟩, by simp only [intOf]; omega⟩
          · have h := hown.set k (xs[k] - bw - ys[k])
            rw [HL.out] at h
            exact h
          · intro j h h' hj
            rw [List.getElem_set_ne (by omega)]
            exact HS.out j (by simpa using h) h' (by omega)
          · rw [dg_in hky]; omega
      · rw [dg_out (by omega)] at byy
        by_cases hneg : xs[k] - bw < 0
        · go_wp2
          refine ⟨⟨k + 1, os.set k (xs[k] - bw + 1000000000), 1, by omega, by go_num, rfl, by omega, by omega, ?_, hg.setBlk hgb k _, hdo.set k (by omega) (by omega), by simpa using HL.out, ?_, STEP.out _ _ ?_⟩, by simp only [intOf]; omega⟩
          · have h := hown.set k (xs[k] - bw + 1000000000)
            rw [HL.out] at h
            exact h
          · intro j h h' hj
            rw [List.getElem_set_ne (by omega)]
            exact HS.out j (by simpa using h) h' (by omega)
          · rw [dg_out (by omega)]; omega
        · go_wp2
          refine ⟨⟨k + 1, os.set k (xs[k] - bw), 0, by omega, by go_num, rfl, by omega, by omega, ?_, hg.setBlk hgb k _, hdo.set k (by omega) (by omega), by simpa using HL.out, ?_, STEP.out _ _ ?_⟩, by simp only [intOf]; omega⟩
          · have h := hown.set k (xs[k] - bw)
            rw [HL.out] at h
            exact h
          · intro j h h' hj
            rw [List.getElem_set_ne (by omega)]
            exact HS.out j (by simpa using h) h' (by omega)
          · rw [dg_out (by omega)]; omega
    · obtain rfl : k = xs.length := by omega
      have hval : val os = val xs - val ys := by
        have h := HV.out
        rw [List.take_length, val_take_all (by omega), val_take_all (show ys.length ≤ xs.length from hyx)] at h
        have h1 := val_lt hdo
        rw [hlo] at h1
        have h2 := HAB.out
        rcases (show bw = 0 ∨ bw = 1 by omega) with h3 | h3
        · rw [h3] at h; omega
        · rw [h3] at h; omega
      have HP := hid hval
      have his : IsInts wr (.slice A1 xs.length c1) os := hown.is
      clear hval hlo
      go_wp2_with (go_at_call 38; refine (trim_any _ os _ his hdo).mono ?_; rintro e w' ⟨v, rfl, hn, rfl⟩)
      go_ret
      exact ⟨v, rfl, by rw [← HP.out]; exact trim_natF hn hown.tag, hg⟩
end Go.Proofs.YtomgilkchlediaaGreatDoor
