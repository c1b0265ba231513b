/-
  The walk of the product of two naturals.
-/
import Derived.Test.YtomgilkchlediaaGreatDoorNatA
namespace Go.Proofs.YtomgilkchlediaaGreatDoor
open Go.RowKit

theorem split_u64 (n : Int) (w : World) (h0 : 0 ≤ n) (h1 : n < 1000000000000000000) :
    Calls Tryz.prog 76 #[.int .u64 n] w fun e w' => e = .returned (.tuple #[.int .u64 (n % 1000000000), .int .u64 (n / 1000000000)]) ∧ w = w' := by
  go_enter Tryz.func76, Tryz.ntmps76
  go_wp2
  go_ret2
  exact ⟨rfl, rfl⟩

theorem infoU64 : (Tryz.prog.info? 53).map (fun i => (i.zero, i.size, i.bytes)) = some (some (.int .u64 0), 1, 8) := by kernel_rfl

set_option maxRecDepth 100000 in
theorem product_aux (A B : Option Addr) (c d : Nat) (xs ys : List Int) (w : World)
    (hcx : Dig xs) (hcy : Dig ys) (_hc : xs.length ≤ c) (_hm : c ≤ maxLen) (hr : Rd w A (ints xs)) (_hd : ys.length ≤ d) (_hm' : d ≤ maxLen) (hs : Rd w B (ints ys)) (hl : xs.length ≤ 100000) (hl' : ys.length ≤ 100000) :
    Calls Tryz.prog 47 #[.slice A xs.length c, .slice B ys.length d] w (NatRes w (val xs * val ys)) := by

  have HX := hid hcx
  have HY := hid hcy
  clear hcx hcy
  go_enter Tryz.func47, Tryz.ntmps47
  go_wp2_with (at_make; refine wpList_make_blk w _ rfl (.tmp 18) (.tmp 18) _ rfl 53 (.int .u64 0) 8 Tryz.underlying101 infoU64 rfl _ _ _ _ (xs.length + ys.length) rfl rfl (by omega) (by omega) (by omega) (by omega) (Grow.refl _) ?_; intro g w1 hblk hgb hgs hg1 hg1')
  go_loopw [22] (fun i wr => ∃ k os, k ≤ xs.length ∧ i = .int .i64 k ∧ Blk wr g 53 (os.map (Value.int .u64)) ∧ Grow w wr ∧ Dig os ∧ os.length = xs.length + ys.length ∧ (∀ j, k + ys.length ≤ j → (h : j < os.length) → os[j] = 0) ∧ val os = val (xs.take k) * val ys) (fun i _ => xs.length - (intOf i).toNat)
  case atStart => exact ⟨0, List.replicate (xs.length + ys.length) 0, Nat.zero_le _, rfl, by simpa using hblk, hg1, Dig.zeros _, by simp, by simp, by simp [val, val_zeros]⟩
  case round =>
    obtain ⟨i, os, hi, rfl, hb, hg, hdo, hlo, hz, hv⟩ := hrel
    obtain ⟨wo, rfl⟩ : ∃ wo : World, wo = wr := ⟨_, rfl⟩
    have HV := hid hv
    have HZ := hid hz
    have HL := hid hlo
    clear hv hz hlo
    by_cases hlt : i < xs.length
    · obtain ⟨ad, rfl, hbx, hx⟩ := (hr.grow hg).int hlt
      have bx := HX.out.at_ hlt
      go_wp2
      go_loopw [8, 29] (fun cr j wr => ∃ k ps cv, k ≤ ys.length ∧ j = .int .i64 k ∧ cr = .int .u64 cv ∧ 0 ≤ cv ∧ cv < 1000000000 ∧ Blk wr g 53 (ps.map (Value.int .u64)) ∧ Grow w wr ∧ Dig ps ∧ ps.length = xs.length + ys.length ∧ (∀ j, i + ys.length ≤ j → (h : j < ps.length) → ps[j] = 0) ∧ val ps + radix (i + k) * cv = val (xs.take i) * val ys + radix i * (xs[i] * val (ys.take k))) (fun _ j _ => ys.length - (intOf j).toNat)
      case atStart => exact ⟨0, os, 0, Nat.zero_le _, rfl, rfl, by omega, by omega, hb, hg, hdo, HL.out, HZ.out, by rw [HV.out]; simp [val]⟩
      case round =>
        clear hb hg hdo HV HZ HL hx hbx
        obtain ⟨k, ps, cv, hk, rfl, rfl, hc0, hc1, hb, hg, hdo, hlo, hz, hv⟩ := hrel
        have HV := hid hv
        have HZ := hid hz
        have HL := hid hlo
        by_cases hlt2 : k < ys.length
        · obtain ⟨ad', rfl, hby, hy⟩ := (hs.grow hg).int hlt2
          have byy := HY.out.at_ hlt2
          have hip : i + k < ps.length := by omega
          have hcell := hb.cell_int hip
          have hfree := hb.free (i + k)
          have bo := hdo.at_ hip
          have bm := mul_dig bx byy bo ⟨hc0, hc1⟩
          clear hv hz hlo
          go_wp2_with (go_at_call 76; refine (split_u64 _ _ (by omega) (by omega)).mono ?_; rintro e w' ⟨rfl, rfl⟩)
          refine ⟨⟨k + 1, ps.set (i + k) _, _, by omega, by go_num, rfl, by omega, by omega, hb.set_int _ _, hg.setBlk hgb _ _, hdo.set _ (by omega) (by omega), by simp [HL.out], ?_, prod_step hlt2 hip HV.out⟩, by simp [intOf] <;> omega⟩
          intro j hj hjl
          rw [List.getElem_set_ne (by omega)]
          exact HZ.out j hj (by simpa using hjl)
        · clear hv hz hlo
          obtain rfl : k = ys.length := by omega
          have hip : i + ys.length < ps.length := by have := HL.out; omega
          have hcell := hb.cell_int hip
          have hfree := hb.free (i + ys.length)
          go_wp2
          refine ⟨⟨i + 1, ps.set (i + ys.length) cv, by omega, by go_num, hb.set_int _ _, hg.setBlk hgb _ _, hdo.set _ (by omega) (by omega), by simp [HL.out], ?_, prod_row hlt hip (HZ.out _ (by omega) hip) HV.out⟩, by simp [intOf] <;> omega⟩
          intro j hj hjl
          rw [List.getElem_set_ne (by omega)]
          exact HZ.out j (by omega) (by simpa using hjl)
    · obtain rfl : i = xs.length := by omega
      go_wp2_with (at_make; refine wpList_make_blk w _ rfl (.tmp 67) (.tmp 67) _ rfl 3 (.int .i64 0) 8 Tryz.underlying24 infoInt rfl _ _ _ _ (xs.length + ys.length) rfl rfl (by omega) (by omega) (by omega) (by omega) hg ?_; intro g2 w2 hblk2 hgb2 hgs2 hg2 hg2')
      have hbo := hb.grow hg2'
      have hne : g ≠ g2 := by have := hb.lt; omega
      have hv : val os = val xs * val ys := by rw [HV.out, List.take_length]
      have HP := hid hv
      clear hv hb hblk
      go_loopw [71] (fun i wr => ∃ k qs, k ≤ os.length ∧ i = .int .i64 k ∧ Blk wr g 53 (os.map (Value.int .u64)) ∧ Blk wr g2 3 (ints qs) ∧ Grow w wr ∧ qs.length = os.length ∧ (∀ j, (h : j < qs.length) → (h' : j < os.length) → j < k → qs[j] = os[j])) (fun i _ => os.length - (intOf i).toNat)
      case atStart => exact ⟨0, List.replicate (xs.length + ys.length) 0, Nat.zero_le _, rfl, hbo, by simpa [ints] using hblk2, hg2, by simp [HL.out], by simp⟩
      case round =>
        clear hbo hblk2 hg2 hg2' hg hg1 hg1'
        obtain ⟨k, qs, hk, rfl, hbo, hbq, hg, hlq, hq⟩ := hrel
        have HQ := hid hq
        have HLQ := hid hlq
        have lo : os.length = xs.length + ys.length := HL.out
        have LO := hid lo
        have lo1 : os.length ≤ xs.length + ys.length := by omega
        have lo2 : xs.length + ys.length ≤ os.length := by omega
        clear hq lo
        by_cases hlt2 : k < os.length
        · have hcell := hbo.cell_int hlt2
          have hkq : k < qs.length := by omega
          have hcell2 := hbq.cell_int hkq
          have hfree := hbq.free k
          have bo := hdo.at_ hlt2
          clear hlq
          go_wp2
          refine ⟨⟨k + 1, qs.set k os[k], by omega, by go_num, hbo.far hne _, hbq.set_int _ _, hg.setBlk hgb2 _ _, by simp [HLQ.out], ?_⟩, by simp [intOf] <;> omega⟩
          intro j h h' hj
          by_cases e : j = k
          · subst e; simp
          · rw [List.getElem_set_ne (by omega)]
            exact HQ.out j (by simpa using h) h' (by omega)
        · have hqo : qs = os := List.ext_getElem hlq fun j h h' => HQ.out j h h' (by omega)
          have HQO := hid hqo
          have hlq2 : xs.length + ys.length ≤ qs.length ∧ qs.length ≤ xs.length + ys.length := by omega
          clear hlq hqo
          have his : IsInts wr (.slice (some ⟨g2, 0, none⟩) (xs.length + ys.length) (xs.length + ys.length)) qs := by
            rw [show xs.length + ys.length = qs.length from by omega]
            exact hbq.is (by unfold maxLen; omega)
          go_wp2_with (go_at_call 38; refine (trim_any _ qs _ his (by rw [HQO.out]; exact hdo)).mono ?_; rintro e w' ⟨v, rfl, hn, rfl⟩)
          go_ret
          exact ⟨v, rfl, by rw [← HP.out, ← HQO.out]; exact trim_natF hn hbq.tag, hg⟩

/-- The product of two naturals. -/
theorem product_any (v1 v2 : Value) (a b : Int) (w : World) (h1 : IsNat w v1 a) (h2 : IsNat w v2 b) (ha : Small a) (hb : Small b) :
    Calls Tryz.prog 47 #[v1, v2] w (NatRes w (a * b)) := by
  obtain ⟨xs, hcx, rfl, A, c, rfl, hc, hm, hr⟩ := h1
  obtain ⟨ys, hcy, rfl, B, d, rfl, hd, hm', hs⟩ := h2
  have lx := ha.len hcx
  have ly := hb.len hcy
  exact product_aux A B c d xs ys w hcx.1 hcy.1 hc hm hr hd hm' hs (by omega) (by omega)
end Go.Proofs.YtomgilkchlediaaGreatDoor
