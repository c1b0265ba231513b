/-
  The walk of the reference's check of kinds.
-/
import Derived.Test.YtgphdaipgodjgaaRefU
namespace Go.Proofs.Ytgphdaipgodjgaa
open Go.RowKit

theorem rcheckKinds_any (v : Value) (zs : List Int) (many : Int) (w : World) (h : IsInts w v zs) : Calls Try.prog 72 #[v, .int .i64 many] w (Says w (.int .i64 (risErr many (-1) zs))) := by
  obtain ⟨A, c, rfl, hc, hm, hr⟩ := h
  unfold maxLen at hm
  have hfin : ∀ n, risErr many (-1) zs = n → ∀ m, Says w (.int .i64 (risErr many (-1) zs)) (.returned (.int .i64 n)) (w.drewN m) := fun n hn m => ⟨by rw [hn], m, rfl⟩
  have HF := hid hfin
  clear hfin
  go_enter Try.func72, Try.ntmps72
  go_wp2
  go_loopw [5] (fun i wr => ∃ k : Nat, k ≤ zs.length ∧ i = .int .i64 (k : Int) ∧ risErr many (-1) zs = risErr many (prevI zs k) (zs.drop k) ∧ ∃ n, wr = w.drewN n) (fun i _ => zs.length - (intOf i).toNat)
  case atStart => exact ⟨0, Nat.zero_le _, rfl, by rw [prevI_zero]; rfl, 0, rfl⟩
  case round =>
    obtain ⟨k, hk, rfl, hz, n, rfl⟩ := hrel
    have HZ := hid hz
    clear hz
    by_cases hlt : k < zs.length
    · obtain ⟨ad, rfl, hb, hx⟩ := hr.int hlt
      have hst := HZ.out
      rw [risErr_drop hlt] at hst
      by_cases e1 : zs[k] < 0
      · rw [if_pos (.inl e1)] at hst
        have HS := hid hst
        clear hst
        go_wp2
        go_ret
        exact HF.out _ HS.out _
      · by_cases e2 : many ≤ zs[k]
        · rw [if_pos (.inr e2)] at hst
          have HS := hid hst
          clear hst
          go_wp2
          go_ret
          exact HF.out _ HS.out _
        · rw [if_neg (by omega)] at hst
          have i0 : (0 : Int) ≤ (k : Int) := by omega
          have i1 : (k : Int) < (zs.length : Int) := by omega
          by_cases h0 : 0 < k
          · have hpl : k - 1 < zs.length := by omega
            have hp : prevI zs k = zs[k - 1] := by unfold prevI; rw [dif_pos ⟨h0, hpl⟩]
            obtain ⟨ad', hh, _, hx'⟩ := hr.int hpl
            obtain rfl := Option.some.inj hh
            have i2 : (0 : Int) < (k : Int) := by omega
            have f1 : IntKind.i64.wrap ((k : Int) - 1) = (k : Int) - 1 := IntWalk.i64_in _ (by omega)
            have f2 : ((k : Int) - 1).toNat = k - 1 := by omega
            have i3 : (0 : Int) ≤ (k : Int) - 1 := by omega
            have i4 : (k : Int) - 1 < (zs.length : Int) := by omega
            by_cases e3 : zs[k] ≤ zs[k - 1]
            · rw [hp, if_pos e3] at hst
              have HS := hid hst
              clear hst hp hh
              go_wp2
              go_quiet (fail)
              go_wp2
              go_ret
              rw [World.drewN_drewN]
              exact HF.out _ HS.out _
            · rw [hp, if_neg e3] at hst
              have HS := hid hst
              clear hst hp hh
              go_wp2
              go_quiet (fail)
              go_wp2
              exact ⟨⟨k + 1, by omega, by go_num, by rw [prevI_succ hlt]; exact HS.out, _, rfl⟩, by simp only [intOf]; omega⟩
          · obtain rfl : k = 0 := by omega
            have hp : prevI zs 0 = -1 := prevI_zero zs
            rw [hp, if_neg (by omega)] at hst
            have HS := hid hst
            have hx0 : w.cell? ad = some (.int .i64 zs[0]) := by have h := hx; unfold Addr.add at h; simpa using h
            clear hst hp
            go_wp2
            go_quiet (fail)
            go_wp2
            exact ⟨⟨1, by omega, by go_num, by rw [prevI_succ hlt]; exact HS.out, _, rfl⟩, by simp only [intOf]; omega⟩
    · have e : risErr many (-1) zs = 0 := by rw [HZ.out, List.drop_eq_nil_of_le (by omega)]; rfl
      have HE := hid e
      clear e
      go_wp2
      go_ret
      exact HF.out _ HE.out _
end Go.Proofs.Ytgphdaipgodjgaa
