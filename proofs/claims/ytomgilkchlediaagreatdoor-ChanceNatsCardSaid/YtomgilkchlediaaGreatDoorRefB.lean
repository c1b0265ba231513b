/-
  Walks of the reference's naturals: times, add.
-/
import Derived.Test.YtomgilkchlediaaGreatDoorRefA
import Derived.BigQuiet
import Derived.Deep.QuietTactic
namespace Go.Proofs.YtomgilkchlediaaGreatDoor
open Go.RowKit

set_option maxRecDepth 100000 in
theorem times_aux (A B : Option Addr) (c d : Nat) (xs ys : List Int) (w : World)
    (hcx : Dig xs) (hcy : Dig ys) (hr : Rd w A (ints xs)) (hd : ys.length ≤ d) (hm' : d ≤ maxLen) (hs : Rd w B (ints ys)) (hl : xs.length ≤ 100000) (hl' : ys.length ≤ 100000) :
    Calls Tryz.prog 48 #[.slice A xs.length c, .slice B ys.length d] w (NatRes w (val xs * val ys)) := by
  have HX := hid hcx
  have HY := hid hcy
  have D2 := fun W (k : Nat) (hg : Grow w W) => digit_any B d ys k W hd hm' (hs.grow hg)
  have HD := hid D2
  clear hcx hcy D2
  go_enter Tryz.func48, Tryz.ntmps48
  go_wp2_with (at_make; refine wpList_make_blk w _ rfl (.tmp 14) (.tmp 14) _ rfl 3 (.int .i64 0) 8 Tryz.underlying24 infoInt rfl _ _ _ _ (xs.length + ys.length) rfl rfl (by omega) (by omega) (by omega) (by omega) (Grow.refl _) ?_; intro g w1 hblk hgb hgs hg1 hg1')
  go_loopw [6] (fun i wr => ∃ k os, k ≤ xs.length ∧ i = .int .i64 k ∧ Blk wr g 3 (ints os) ∧ Grow w wr ∧ Dig os ∧ os.length = xs.length + ys.length ∧ (∀ j, k + ys.length ≤ j → (h : j < os.length) → os[j] = 0) ∧ val os = val (xs.take k) * val ys) (fun i _ => xs.length - (intOf i).toNat)
  case atStart => exact ⟨0, List.replicate (xs.length + ys.length) 0, Nat.zero_le _, rfl, by simpa [ints] using hblk, hg1, Dig.zeros _, by simp, by simp, by simp [val, val_zeros]⟩
  case round =>
    clear hblk hg1 hg1'
    obtain ⟨i, os, hi, rfl, hb, hg, hdo, hlo, hz, hv⟩ := hrel
    have HV := hid hv
    have HZ := hid hz
    have HL := hid hlo
    clear hv hz hlo
    by_cases hlt : i < xs.length
    · obtain ⟨ad, rfl, hbx, hx⟩ := hr.int hlt
      have bx := HX.out.at_ hlt
      go_wp2
      go_loopw [7, 8] (fun cr j wr => ∃ (k : Nat) (ps : List Int) (cv : Int), k ≤ ys.length + 1 ∧ (k = ys.length + 1 → cv = 0) ∧ j = .int .i64 k ∧ cr = .int .i64 cv ∧ 0 ≤ cv ∧ cv < 1000000000 ∧ Blk wr g 3 (ints ps) ∧ Grow w wr ∧ Dig ps ∧ ps.length = xs.length + ys.length ∧ (∀ j, i + ys.length ≤ j → i + k ≤ j → (h : j < ps.length) → ps[j] = 0) ∧ val ps + radix (i + k) * cv = val (xs.take i) * val ys + radix i * (xs[i] * val (ys.take k))) (fun _ j _ => ys.length + 1 - (intOf j).toNat)
      case atStart => exact ⟨0, os, 0, Nat.zero_le _, by omega, rfl, rfl, by omega, by omega, hb, hg, hdo, HL.out, fun j hj _ => HZ.out j hj, by rw [HV.out]; simp [val]⟩
      case round =>
        clear hb hg hdo HV HZ HL
        obtain ⟨k, ps, cv, hk, hk1, rfl, rfl, hc0, hc1, hb, hg, hdo, hlo, hz, hv⟩ := hrel
        have HV := hid hv
        have HZ := hid hz
        have HL := hid hlo
        have HK := hid hk1
        by_cases hgo : k < ys.length ∨ 0 < cv
        · have hkm : k ≤ ys.length := by
            rcases Nat.lt_or_ge ys.length k with h | h
            · have := hk1 (by omega)
              omega
            · exact h
          have hip : i + k < ps.length := by omega
          have hcell := hb.cell_int hip
          have hfree := hb.free (i + k)
          have hxg := hg.cell_some hx
          have by1 := HY.out.dg k
          have bo := hdo.at_ hip
          have bm := mul_dig bx by1 bo ⟨hc0, hc1⟩
          have hz1 : ys.length ≤ k → dg ys k = 0 ∧ ps[i + k] = 0 := fun h => ⟨dg_out h, HZ.out _ (by omega) (by omega) hip⟩
          have HZ1 := hid hz1
          have t1 : k < ys.length ∨ (k = ys.length ∧ 0 < cv) := by omega
          clear hv hz hlo hk1 hgo hz1 hx
          rcases t1 with t1 | ⟨t1, t2⟩
          case' inr => have t3 : ys.length ≤ k := by omega
          case' inr => clear t1
          all_goals
            have f1 : IntKind.i64.wrap ((i : Int) + (k : Int)) = (i : Int) + (k : Int) := IntWalk.i64_in _ (by omega)
            have f2 : ((i : Int) + (k : Int)).toNat = i + k := by omega
            have f3 : IntKind.i64.wrap (xs[i] * dg ys k) = xs[i] * dg ys k := IntWalk.i64_in _ (by omega)
            have f4 : IntKind.i64.wrap (ps[i + k] + xs[i] * dg ys k) = ps[i + k] + xs[i] * dg ys k := IntWalk.i64_in _ (by omega)
            have f5 : IntKind.i64.wrap (ps[i + k] + xs[i] * dg ys k + cv) = ps[i + k] + xs[i] * dg ys k + cv := IntWalk.i64_in _ (by omega)
            have i0 : (0 : Int) ≤ (i : Int) := by omega
            have i1 : (i : Int) < (xs.length : Int) := by omega
            have i2 : (0 : Int) ≤ (i : Int) + (k : Int) := by omega
            have i3 : (i : Int) + (k : Int) < (xs.length : Int) + (ys.length : Int) := by omega
            go_wp2
            go_quiet ((go_at_call 75; exact q_same (HD.out _ k (hg.drewN _))))
            clear f1 f2 f3 f4 f5
            go_wp2
          all_goals
            have hq : k + 1 = ys.length + 1 → (ps[i + k] + xs[i] * dg ys k + cv) / 1000000000 = 0 := fun h => by
              have hh := HZ1.out (by omega)
              rw [hh.1, hh.2, Int.mul_zero, Int.zero_add, Int.zero_add]
              omega
            refine ⟨⟨k + 1, ps.set (i + k) _, _, by omega, hq, by go_num, rfl, by omega, by omega, hb.set_int (i + k) _, (hg.drewN _).setBlk hgb (i + k) _, hdo.set (i + k) (by omega) (by omega), by simpa using HL.out, ?_, prod_step' hip HV.out⟩, by simp only [intOf]; omega⟩
            intro j hj hj2 hjl
            rw [List.getElem_set_ne (by omega)]
            exact HZ.out j hj (by omega) (by simpa using hjl)
        · have hc00 : cv = 0 := by omega
          have hkm : ys.length ≤ k := by omega
          have hv' : val ps = val (xs.take (i + 1)) * val ys := by
            have h := HV.out
            rw [hc00, Int.mul_zero, Int.add_zero, val_take_all hkm] at h
            rw [h, val_take_succ xs i hlt]
            grind
          have HP := hid hv'
          clear hv hz hlo hk1 hv' hc00
          go_wp2
          refine ⟨⟨i + 1, ps, by omega, by go_num, hb, hg, hdo, HL.out, ?_, HP.out⟩, by simp only [intOf]; omega⟩
          intro j hj hjl
          have := HK.out
          exact HZ.out j (by omega) (by omega) hjl
    · obtain rfl : i = xs.length := by omega
      have hv : val os = val xs * val ys := by rw [HV.out, List.take_length]
      have HP := hid hv
      have lo1 := HL.out
      have lo2 : os.length ≤ xs.length + ys.length := by omega
      have his : IsInts wr (.slice (some ⟨g, 0, none⟩) (xs.length + ys.length) (xs.length + ys.length)) os := by
        rw [← lo1]
        exact hb.is (by unfold maxLen; omega)
      clear hv lo1
      go_wp2_with (go_at_call 51; refine (cut_any _ os _ his hdo).mono ?_; rintro e w' ⟨v, rfl, hn, rfl⟩)
      go_ret
      exact ⟨v, rfl, by rw [← HP.out]; exact trim_natF hn hb.tag, hg⟩

theorem times_any (v1 v2 : Value) (a b : Int) (w : World) (h1 : IsNat w v1 a) (h2 : IsNat w v2 b) (ha : Small a) (hb : Small b) :
    Calls Tryz.prog 48 #[v1, v2] w (NatRes w (a * b)) := by
  obtain ⟨xs, hcx, rfl, A, c, rfl, hc, hm, hr⟩ := h1
  obtain ⟨ys, hcy, rfl, B, d, rfl, hd, hm', hs⟩ := h2
  have lx := ha.len hcx
  have ly := hb.len hcy
  exact times_aux A B c d xs ys w hcx.1 hcy.1 hr hd hm' hs (by omega) (by omega)
theorem add_any (v1 v2 : Value) (a b : Int) (w : World) (h1 : IsNat w v1 a) (h2 : IsNat w v2 b) (ha : Small a) (hb : Small b) :
    Calls Tryz.prog 46 #[v1, v2] w (NatRes w (a + b)) := by
  obtain ⟨xs, hcx, rfl, A, c, rfl, hc, hm, hr⟩ := h1
  obtain ⟨ys, hcy, rfl, B, d, rfl, hd, hm', hs⟩ := h2
  have lx := ha.len hcx
  have ly := hb.len hcy
  exact add_aux A B c d xs ys w hcx.1 hcy.1 hc hm hr hd hm' hs (by omega) (by omega)
end Go.Proofs.YtomgilkchlediaaGreatDoor
