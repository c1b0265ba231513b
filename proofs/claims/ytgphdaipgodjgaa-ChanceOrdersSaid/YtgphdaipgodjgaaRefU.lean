/-
  Walks of the reference's and the law's totals, and of the reference's check of what is unseen.
-/
import Derived.Test.YtgphdaipgodjgaaDrawsE
namespace Go.Proofs.Ytgphdaipgodjgaa
open Go.RowKit

theorem rtotal_any (v : Value) (zs : List Int) (w : World) (h : IsInts w v zs) (hw : Within (-1000000) 1000000 zs) (hl : zs.length ≤ 100000) : Calls Try.prog 68 #[v] w (Same w (.int .i64 (sumI zs))) := by
  obtain ⟨A, c, rfl, hc, hm, hr⟩ := h
  unfold maxLen at hm
  have HW := hid hw
  clear hw
  go_enter Try.func68, Try.ntmps68
  go_wp2
  go_loop [3, 4] (fun n i => ∃ k : Nat, k ≤ zs.length ∧ i = .int .i64 (k : Int) ∧ n = .int .i64 (sumI (zs.take k))) (fun _ i => zs.length - (intOf i).toNat)
  case atStart => exact ⟨0, Nat.zero_le _, rfl, rfl⟩
  case round =>
    obtain ⟨k, hk, rfl, rfl⟩ := hrel
    have hb := (HW.out.take k).sum
    have hlk : (zs.take k).length = k := by rw [List.length_take]; omega
    rw [hlk] at hb
    have hb1 : -1000000 * 100000 ≤ sumI (zs.take k) ∧ sumI (zs.take k) ≤ 1000000 * 100000 := by omega
    clear hb hlk
    by_cases hlt : k < zs.length
    · obtain ⟨ad, rfl, hba, hx⟩ := hr.int hlt
      have bx := HW.out.at_ hlt
      have HS := hid (sumI_take zs hlt)
      go_wp2
      exact ⟨⟨k + 1, by omega, by go_num, by rw [HS.out]⟩, by simp only [intOf]; omega⟩
    · have e : zs.take k = zs := List.take_of_length_le (by omega)
      rw [e] at hb1 ⊢
      clear e
      go_wp2
      go_ret
      exact ⟨rfl, rfl⟩

theorem ltotal_any (v : Value) (zs : List Int) (w : World) (h : IsInts w v zs) (hw : Within (-1000000) 1000000 zs) (hl : zs.length ≤ 100000) : Calls Try.prog 39 #[v] w (Same w (.int .i64 (sumI zs))) := by
  obtain ⟨A, c, rfl, hc, hm, hr⟩ := h
  unfold maxLen at hm
  have HW := hid hw
  clear hw
  go_enter Try.func39, Try.ntmps39
  go_wp2
  go_loop [3, 4] (fun n i => ∃ k : Nat, k ≤ zs.length ∧ i = .int .i64 (k : Int) ∧ n = .int .i64 (sumI (zs.take k))) (fun _ i => zs.length - (intOf i).toNat)
  case atStart => exact ⟨0, Nat.zero_le _, rfl, rfl⟩
  case round =>
    obtain ⟨k, hk, rfl, rfl⟩ := hrel
    have hb := (HW.out.take k).sum
    have hlk : (zs.take k).length = k := by rw [List.length_take]; omega
    rw [hlk] at hb
    have hb1 : -1000000 * 100000 ≤ sumI (zs.take k) ∧ sumI (zs.take k) ≤ 1000000 * 100000 := by omega
    clear hb hlk
    by_cases hlt : k < zs.length
    · obtain ⟨ad, rfl, hba, hx⟩ := hr.int hlt
      have bx := HW.out.at_ hlt
      have HS := hid (sumI_take zs hlt)
      go_wp2
      exact ⟨⟨k + 1, by omega, by go_num, by rw [HS.out]⟩, by simp only [intOf]; omega⟩
    · have e : zs.take k = zs := List.take_of_length_le (by omega)
      rw [e] at hb1 ⊢
      clear e
      go_wp2
      go_ret
      exact ⟨rfl, rfl⟩

theorem unErr_at {u : List Int} {k : Nat} (h0 : ¬ u.length = 0) (h1 : ¬ 34 < u.length) (hk : k < u.length) (h : u[k] < 0 ∨ 4 < u[k]) : unErr u = 2 := by
  unfold unErr
  rw [if_neg h0, if_neg h1, if_pos]
  exact List.any_eq_true.2 ⟨u[k], List.getElem_mem hk, by unfold outB; simp; omega⟩
theorem unErr_none {u : List Int} (h0 : ¬ u.length = 0) (h1 : ¬ 34 < u.length) (h : ∀ (j : Nat) (hj : j < u.length), 0 ≤ u[j] ∧ u[j] ≤ 4) : unErr u = 0 :=
  ok_unErr (by omega) (by omega) fun z hz => by
    obtain ⟨j, hj, rfl⟩ := List.getElem_of_mem hz
    exact h j hj

theorem rcheckUnseen_any (v : Value) (u : List Int) (w : World) (h : IsInts w v u) : Calls Try.prog 67 #[v] w (Same w (.int .i64 (unErr u))) := by
  obtain ⟨A, c, rfl, hc, hm, hr⟩ := h
  unfold maxLen at hm
  have hfin : ∀ n, unErr u = n → Same w (.int .i64 (unErr u)) (.returned (.int .i64 n)) w := fun n hn => ⟨by rw [hn], rfl⟩
  have HF := hid hfin
  clear hfin
  by_cases h0 : u.length = 0
  · have hu : u = [] := List.eq_nil_of_length_eq_zero h0
    subst hu
    have HE := hid (show unErr [] = 6 from rfl)
    clear h0
    go_enter Try.func67, Try.ntmps67
    go_wp2
    go_ret
    exact HF.out 6 HE.out
  · have hne : ((u.length : Int) == 0) = false := by simpa using h0
    have hne' : (u.length == 0) = false := by simpa using h0
    by_cases h1 : 34 < u.length
    · have HE := hid (show unErr u = 8 from by unfold unErr; rw [if_neg h0, if_pos h1])
      clear h0
      go_enter Try.func67, Try.ntmps67
      go_wp2
      go_ret
      exact HF.out 8 HE.out
    · have H0 := hid h0
      have H1 := hid h1
      clear h0
      go_enter Try.func67, Try.ntmps67
      go_wp2
      go_loop [3] (fun i => ∃ k : Nat, k ≤ u.length ∧ i = .int .i64 (k : Int) ∧ ∀ (j : Nat) (hj : j < u.length), j < k → 0 ≤ u[j] ∧ u[j] ≤ 4) (fun i => u.length - (intOf i).toNat)
      case atStart => exact ⟨0, Nat.zero_le _, rfl, fun j _ hj => by omega⟩
      case round =>
        obtain ⟨k, hk, rfl, hd⟩ := hrel
        have HD := hid hd
        clear hd
        by_cases hlt : k < u.length
        · obtain ⟨ad, rfl, hba, hx⟩ := hr.int hlt
          have HE := hid fun hh => unErr_at H0.out H1.out hlt hh
          obtain ⟨z, hz⟩ : ∃ z, z = u[k] := ⟨_, rfl⟩
          rw [← hz] at hx HE
          have HZ := hid hz
          clear hz
          by_cases z0 : z < 0
          · go_wp2
            go_ret
            exact HF.out 2 (HE.out (.inl z0))
          · by_cases z1 : 4 < z
            · go_wp2
              go_ret
              exact HF.out 2 (HE.out (.inr z1))
            · go_wp2
              refine ⟨⟨k + 1, by omega, by go_num, fun j hj hjk => ?_⟩, by simp only [intOf]; omega⟩
              by_cases e : j = k
              · subst e; rw [← HZ.out]; omega
              · exact HD.out j hj (by omega)
        · have HE := hid (unErr_none H0.out H1.out fun j hj => HD.out j hj (by omega))
          go_wp2
          go_ret
          exact HF.out 0 HE.out
end Go.Proofs.Ytgphdaipgodjgaa
