/-
  Walks: the order of naturals, and their checks.
-/
import Derived.Test.YtomgilkchlediaaGreatDoorNatA
import Derived.BigQuiet
import Derived.Deep.QuietTactic
namespace Go.Proofs.YtomgilkchlediaaGreatDoor
open Go.RowKit

theorem compare_any (a b : Int) (w : World) : Calls Tryz.prog 77 #[.int .i64 a, .int .i64 b] w (Same w (.int .i64 (cmpI a b))) := by
  rcases Int.lt_trichotomy a b with h | rfl | h
  · rw [cmpI_lt h]
    go_enter Tryz.func77, Tryz.ntmps77
    go_wp2
    go_ret
    exact ⟨rfl, rfl⟩
  · rw [cmpI_eq]
    go_enter Tryz.func77, Tryz.ntmps77
    go_wp2
    go_ret
    exact ⟨rfl, rfl⟩
  · rw [cmpI_gt h]
    go_enter Tryz.func77, Tryz.ntmps77
    go_wp2
    go_ret
    exact ⟨rfl, rfl⟩

theorem order_any (v1 v2 : Value) (a b : Int) (w : World) (h1 : IsNat w v1 a) (h2 : IsNat w v2 b) :
    Calls Tryz.prog 49 #[v1, v2] w (Says w (.int .i64 (cmpI a b))) := by
  obtain ⟨xs, hcx, rfl, A, c, rfl, hc, hm, hr⟩ := h1
  obtain ⟨ys, hcy, rfl, B, d, rfl, hd, hm', hs⟩ := h2
  unfold maxLen at hm hm'
  by_cases hl : xs.length = ys.length
  · have hne : ((xs.length : Int) != (ys.length : Int)) = false := by simp [hl]
    have hne' : (xs.length != ys.length) = false := by simp [hl]
    have HL := hid hl
    have HX := hid hcx
    have HY := hid hcy
    have hl1 : xs.length ≤ ys.length := by omega
    have hl2 : ys.length ≤ xs.length := by omega
    clear hl hcx hcy
    go_enter Tryz.func49, Tryz.ntmps49
    go_wp2
    go_loopw [5] (fun i wr => ∃ k, k ≤ xs.length ∧ i = .int .i64 ((k : Int) - 1) ∧ xs.drop k = ys.drop k ∧ ∃ n, wr = w.drewN n) (fun i _ => (intOf i + 1).toNat)
    case atStart => exact ⟨xs.length, Nat.le_refl _, rfl, by simp [HL.out], 0, rfl⟩
    case round =>
      obtain ⟨k, hk, rfl, hdr, n, rfl⟩ := hrel
      have HD := hid hdr
      clear hdr
      by_cases h0 : 0 < k
      · obtain ⟨ad, rfl, hb, hx⟩ := hr.int (k := k - 1) (by omega)
        obtain ⟨ad', rfl, hb', hx'⟩ := hs.int (k := k - 1) (by omega)
        have it : ((k : Int) - 1).toNat = k - 1 := by omega
        have i0 : (0 : Int) ≤ (k : Int) - 1 := by omega
        have i1 : (k : Int) - 1 < (xs.length : Int) := by omega
        have i2 : (k : Int) - 1 < (ys.length : Int) := by omega
        by_cases he : xs[k - 1] = ys[k - 1]
        · have he' : (xs[k - 1] != ys[k - 1]) = false := by simp [he]
          have HE := hid he
          clear he
          go_wp2
          go_quiet (fail)
          go_wp2
          refine ⟨⟨k - 1, by omega, by go_num, ?_, _, rfl⟩, by simp [intOf] <;> omega⟩
          rw [List.drop_eq_getElem_cons (by omega), List.drop_eq_getElem_cons (show k - 1 < ys.length by omega), HE.out, show k - 1 + 1 = k from by omega, HD.out]
        · have he' : (xs[k - 1] != ys[k - 1]) = true := by simp [he]
          go_wp2
          go_quiet (fail)
          go_wp2
          go_quiet ((go_at_call 77; exact q_same' (compare_any _ _ _)))
          go_wp2
          go_ret
          refine ⟨?_, _, by rw [World.drewN_drewN, World.drewN_drewN]⟩
          have e : cmpI xs[k - 1] ys[k - 1] = cmpI (val xs) (val ys) := by
            have hdr : xs.drop (k - 1 + 1) = ys.drop (k - 1 + 1) := by rw [show k - 1 + 1 = k from by omega, HD.out]
            rcases Int.lt_trichotomy xs[k - 1] ys[k - 1] with h | h | h
            · rw [cmpI_lt h, cmpI_lt (val_digit_lt HX.out.1 HY.out.1 HL.out (by omega) hdr h)]
            · exact absurd h he
            · rw [cmpI_gt h, cmpI_gt (val_digit_lt HY.out.1 HX.out.1 HL.out.symm (by omega) hdr.symm h)]
          rw [← e]; rfl
      · obtain rfl : k = 0 := by omega
        go_wp2
        go_ret
        refine ⟨?_, _, rfl⟩
        have e : xs = ys := by simpa using HD.out
        rw [e, cmpI_eq]; rfl
  · have hne : ((xs.length : Int) != (ys.length : Int)) = true := by simp; omega
    have hne' : (xs.length != ys.length) = true := by simp; omega
    have HL := hid hl
    have HX := hid hcx
    have HY := hid hcy
    clear hl hcx hcy
    go_enter Tryz.func49, Tryz.ntmps49
    go_wp2_with (go_at_call 77; refine (compare_any _ _ _).mono ?_; rintro e w' ⟨rfl, rfl⟩)
    go_ret
    refine ⟨?_, 0, rfl⟩
    have e : cmpI (xs.length : Int) (ys.length : Int) = cmpI (val xs) (val ys) := by
      rcases Nat.lt_or_ge xs.length ys.length with h | h
      · rw [cmpI_lt (by omega), cmpI_lt (val_len_lt HX.out HY.out h)]
      · have h' : ys.length < xs.length := by have := HL.out; omega
        rw [cmpI_gt (by omega), cmpI_gt (val_len_lt HY.out HX.out h')]
    rw [← e]; rfl

end Go.Proofs.YtomgilkchlediaaGreatDoor
