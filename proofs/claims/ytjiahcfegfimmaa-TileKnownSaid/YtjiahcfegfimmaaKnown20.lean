/-
  Walks of the kit's small functions: Into, Equal, In; and of the reference's Has.
-/
import Derived.Test.YtjiahcfegfimmaaKnown03
import Derived.Deep.QuietTactic
import Derived.BigQuiet
namespace Go.Proofs.Ytjiahcfegfimmaa
open Go.RowKit

theorem Into_any (n m : Int) (w : World) (hn0 : -9223372036854775808 ≤ n) (hn : n ≤ 9223372036854775807) (h0 : 1 ≤ m) (h1 : m ≤ 1000000000) : Calls Try.prog 33 #[.int .i64 n, .int .i64 m] w (Same w (.int .i64 (n % m))) := by
  have hfin : ∀ r, r = n % m → Same w (.int .i64 (n % m)) (.returned (.int .i64 r)) w := fun r hr => ⟨by rw [hr], rfl⟩
  have HF := hid hfin
  clear hfin
  by_cases hs : 0 ≤ n
  · have h2 := Int.emod_nonneg n (show m ≠ 0 by omega)
    have h3 := Int.emod_lt_of_pos n (show 0 < m by omega)
    go_enter Try.func33, Try.ntmps33
    go_wp2
    go_ret
    exact HF.out _ rfl
  · have e0 : n.tmod m = -((-n) % m) := by
      conv => lhs; rw [show n = -(-n) by omega, Int.neg_tmod, Int.tmod_eq_emod_of_nonneg (by omega)]
    have h2 := Int.emod_nonneg (-n) (show m ≠ 0 by omega)
    have h3 := Int.emod_lt_of_pos (-n) (show 0 < m by omega)
    by_cases hz : (-n) % m = 0
    · have e1 : n % m = 0 := by
        have : m ∣ -n := Int.dvd_of_emod_eq_zero hz
        exact Int.emod_eq_zero_of_dvd (by simpa using (Int.dvd_neg.2 this))
      have e2 : n.tmod m = 0 := by rw [e0, hz]; rfl
      have HE := hid e1
      have t0 : 0 ≤ n.tmod m := by omega
      have t1 : n.tmod m ≤ 0 := by omega
      have HE2 := hid e2
      clear e0 e1 e2 hz h2 h3
      go_enter Try.func33, Try.ntmps33
      go_wp2
      go_ret
      exact HF.out _ (by rw [HE.out]; exact HE2.out)
    · have e1 : n % m = n.tmod m + m := by
        rw [e0]
        have h4 := Int.mul_ediv_add_emod (-n) m
        have h6 : n = (m - (-n) % m) + m * (-((-n) / m) - 1) := by
          generalize (-n) / m = q at *
          generalize (-n) % m = r at *
          grind
        conv => lhs; rw [h6, Int.add_mul_emod_self_left]
        rw [Int.emod_eq_of_lt (by omega) (by omega)]
        omega
      have HE := hid e1
      have t0 : n.tmod m < 0 := by omega
      have t1 : -m < n.tmod m := by omega
      clear e0 e1 hz h2 h3
      go_enter Try.func33, Try.ntmps33
      go_wp2
      go_ret
      exact HF.out _ (by rw [HE.out])

theorem Equal_any (v1 v2 : Value) (xs ys : List Int) (w : World) (h1 : IsInts w v1 xs) (h2 : IsInts w v2 ys) : Calls Try.prog 22 #[v1, v2] w (Says w (.bool (decide (xs = ys)))) := by
  obtain ⟨A, c, rfl, hc, hm, hr⟩ := h1
  obtain ⟨B, d, rfl, hd, hm', hs⟩ := h2
  unfold maxLen at hm hm'
  have hfin : ∀ b : Bool, decide (xs = ys) = b → ∀ n, Says w (.bool (decide (xs = ys))) (.returned (.bool b)) (w.drewN n) := fun b hb n => ⟨by rw [hb], n, rfl⟩
  have HF := hid hfin
  clear hfin
  by_cases hl : xs.length = ys.length
  · have hne : ((xs.length : Int) != (ys.length : Int)) = false := by simp [hl]
    have hne' : (xs.length != ys.length) = false := by simp [hl]
    have HL := hid hl
    have hl1 : xs.length ≤ ys.length := by omega
    have hl2 : ys.length ≤ xs.length := by omega
    clear hl
    go_enter Try.func22, Try.ntmps22
    go_wp2
    go_loopw [5] (fun i wr => ∃ k : Nat, k ≤ xs.length ∧ i = .int .i64 (k : Int) ∧ (∀ j (h : j < xs.length) (h' : j < ys.length), j < k → xs[j] = ys[j]) ∧ ∃ n, wr = w.drewN n) (fun i _ => xs.length - (intOf i).toNat)
    case atStart => exact ⟨0, Nat.zero_le _, rfl, by simp, 0, rfl⟩
    case round =>
      obtain ⟨k, hk, rfl, hdr, n, rfl⟩ := hrel
      have HD := hid hdr
      clear hdr
      by_cases h0 : k < xs.length
      · have h0' : k < ys.length := by omega
        obtain ⟨ad, rfl, hb, hx⟩ := hr.int h0
        obtain ⟨ad', rfl, hb', hx'⟩ := hs.int h0'
        have i0 : (0 : Int) ≤ (k : Int) := by omega
        have i1 : (k : Int) < (xs.length : Int) := by omega
        have i2 : (k : Int) < (ys.length : Int) := by omega
        by_cases he : xs[k] = ys[k]
        · have he' : (xs[k] != ys[k]) = false := by simp [he]
          have HE := hid he
          clear he
          go_wp2
          go_quiet (fail)
          go_wp2
          refine ⟨⟨k + 1, by omega, by go_num, fun j h h' hj => ?_, _, rfl⟩, by simp only [intOf]; omega⟩
          by_cases e : j = k
          · subst e; exact HE.out
          · exact HD.out j h h' (by omega)
        · have he' : (xs[k] != ys[k]) = true := by simp [he]
          have HE := hid he
          clear he
          go_wp2
          go_quiet (fail)
          go_wp2
          go_ret
          rw [World.drewN_drewN]
          exact HF.out false (decide_eq_false fun e => HE.out (by subst e; rfl)) _
      · go_wp2
        go_ret
        exact HF.out true (decide_eq_true (List.ext_getElem HL.out fun j h h' => HD.out j h h' (by omega))) _
  · have hne : ((xs.length : Int) != (ys.length : Int)) = true := by simp; omega
    have hne' : (xs.length != ys.length) = true := by simp; omega
    have HL := hid hl
    clear hl
    go_enter Try.func22, Try.ntmps22
    go_wp2
    go_ret
    exact HF.out false (decide_eq_false fun e => HL.out (by rw [e])) 0

theorem In_any (v : Value) (zs : List Int) (n : Int) (w : World) (h : IsInts w v zs) : Calls Try.prog 53 #[v, .int .i64 n] w (Same w (.bool (decide (n ∈ zs)))) := by
  obtain ⟨A, c, rfl, hc, hm, hr⟩ := h
  unfold maxLen at hm
  have hfin : ∀ b : Bool, decide (n ∈ zs) = b → Same w (.bool (decide (n ∈ zs))) (.returned (.bool b)) w := fun b hb => ⟨by rw [hb], rfl⟩
  have HF := hid hfin
  clear hfin
  go_enter Try.func53, Try.ntmps53
  go_wp2
  go_loop [5] (fun i => ∃ k : Nat, k ≤ zs.length ∧ i = .int .i64 (k : Int) ∧ ∀ j (h : j < zs.length), j < k → zs[j] ≠ n) (fun i => zs.length - (intOf i).toNat)
  case atStart => exact ⟨0, Nat.zero_le _, rfl, by simp⟩
  case round =>
    obtain ⟨k, hk, rfl, hno⟩ := hrel
    have HN := hid hno
    clear hno
    by_cases hlt : k < zs.length
    · obtain ⟨ad, rfl, _, hx⟩ := hr.int hlt
      have i0 : (0 : Int) ≤ (k : Int) := by omega
      have i1 : (k : Int) < (zs.length : Int) := by omega
      by_cases he : zs[k] = n
      · have he' : (zs[k] == n) = true := by simp [he]
        have FIN := hid (show decide (n ∈ zs) = true by rw [decide_eq_true]; exact he ▸ List.getElem_mem hlt)
        clear he
        go_wp2
        go_ret
        exact HF.out _ FIN.out
      · have he' : (zs[k] == n) = false := by simpa using he
        have HE := hid he
        clear he
        go_wp2
        refine ⟨⟨k + 1, by omega, by go_num, fun j h hj => ?_⟩, by simp only [intOf]; omega⟩
        by_cases e : j = k
        · subst e; exact HE.out
        · exact HN.out j h (by omega)
    · go_wp2
      go_ret
      refine HF.out _ (decide_eq_false fun hm => ?_)
      obtain ⟨j, hj, e⟩ := List.getElem_of_mem hm
      exact HN.out j hj (by omega) e

theorem Has_any (v : Value) (zs : List Int) (n : Int) (w : World) (h : IsInts w v zs) : Calls Try.prog 97 #[v, .int .i64 n] w (Same w (.bool (decide (n ∈ zs)))) := by
  obtain ⟨A, c, rfl, hc, hm, hr⟩ := h
  unfold maxLen at hm
  have hfin : ∀ b : Bool, decide (n ∈ zs) = b → Same w (.bool (decide (n ∈ zs))) (.returned (.bool b)) w := fun b hb => ⟨by rw [hb], rfl⟩
  have HF := hid hfin
  clear hfin
  go_enter Try.func97, Try.ntmps97
  go_wp2
  go_loop [5] (fun i => ∃ k : Nat, k ≤ zs.length ∧ i = .int .i64 (k : Int) ∧ ∀ j (h : j < zs.length), j < k → zs[j] ≠ n) (fun i => zs.length - (intOf i).toNat)
  case atStart => exact ⟨0, Nat.zero_le _, rfl, by simp⟩
  case round =>
    obtain ⟨k, hk, rfl, hno⟩ := hrel
    have HN := hid hno
    clear hno
    by_cases hlt : k < zs.length
    · obtain ⟨ad, rfl, _, hx⟩ := hr.int hlt
      have i0 : (0 : Int) ≤ (k : Int) := by omega
      have i1 : (k : Int) < (zs.length : Int) := by omega
      by_cases he : zs[k] = n
      · have he' : (zs[k] == n) = true := by simp [he]
        have FIN := hid (show decide (n ∈ zs) = true by rw [decide_eq_true]; exact he ▸ List.getElem_mem hlt)
        clear he
        go_wp2
        go_ret
        exact HF.out _ FIN.out
      · have he' : (zs[k] == n) = false := by simpa using he
        have HE := hid he
        clear he
        go_wp2
        refine ⟨⟨k + 1, by omega, by go_num, fun j h hj => ?_⟩, by simp only [intOf]; omega⟩
        by_cases e : j = k
        · subst e; exact HE.out
        · exact HN.out j h (by omega)
    · go_wp2
      go_ret
      refine HF.out _ (decide_eq_false fun hm => ?_)
      obtain ⟨j, hj, e⟩ := List.getElem_of_mem hm
      exact HN.out j hj (by omega) e

end Go.Proofs.Ytjiahcfegfimmaa
