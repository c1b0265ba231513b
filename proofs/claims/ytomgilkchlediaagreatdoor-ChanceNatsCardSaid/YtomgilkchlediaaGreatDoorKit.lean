/-
  Walks of the kit's small functions: Into, Equal, SameNat, SameOdds; the law's number and odds.
-/
import Derived.Test.YtomgilkchlediaaGreatDoorSrc
import Derived.Test.YtomgilkchlediaaGreatDoorNatG
namespace Go.Proofs.YtomgilkchlediaaGreatDoor
open Go.RowKit

theorem Equal_any (v1 v2 : Value) (xs ys : List Int) (w : World) (h1 : IsInts w v1 xs) (h2 : IsInts w v2 ys) : Calls Tryz.prog 39 #[v1, v2] w (Says w (.bool (decide (xs = ys)))) := by
  obtain ⟨A, c, rfl, hc, hm, hr⟩ := h1
  obtain ⟨B, d, rfl, hd, hm', hs⟩ := h2
  unfold maxLen at hm hm'
  have hfin : ∀ b : Bool, decide (xs = ys) = b → ∀ n, Says w (.bool (decide (xs = ys))) (.returned (.bool b)) (w.drewN n) := fun b hb n => ⟨by rw [hb], n, rfl⟩
  have HF := hid hfin
  clear hfin
  by_cases hl : xs.length = ys.length
  · have hne : ((xs.length : Int) != (ys.length : Int)) = false := by simp [hl]
    have hne' : (xs.length != ys.length) = false := by simp [hl]
    have HL := hid hl
    have hl1 : xs.length ≤ ys.length := by omega
    have hl2 : ys.length ≤ xs.length := by omega
    clear hl
    go_enter Tryz.func39, Tryz.ntmps39
    go_wp2
    go_loopw [5] (fun i wr => ∃ k : Nat, k ≤ xs.length ∧ i = .int .i64 (k : Int) ∧ (∀ j (h : j < xs.length) (h' : j < ys.length), j < k → xs[j] = ys[j]) ∧ ∃ n, wr = w.drewN n) (fun i _ => xs.length - (intOf i).toNat)
    case atStart => exact ⟨0, Nat.zero_le _, rfl, by simp, 0, rfl⟩
    case round =>
      obtain ⟨k, hk, rfl, hdr, n, rfl⟩ := hrel
      have HD := hid hdr
      clear hdr
      by_cases h0 : k < xs.length
      · have h0' : k < ys.length := by omega
        obtain ⟨ad, rfl, hb, hx⟩ := hr.int h0
        obtain ⟨ad', rfl, hb', hx'⟩ := hs.int h0'
        have i0 : (0 : Int) ≤ (k : Int) := by omega
        have i1 : (k : Int) < (xs.length : Int) := by omega
        have i2 : (k : Int) < (ys.length : Int) := by omega
        by_cases he : xs[k] = ys[k]
        · have he' : (xs[k] != ys[k]) = false := by simp [he]
          have HE := hid he
          clear he
          go_wp2
          go_quiet (fail)
          go_wp2
          refine ⟨⟨k + 1, by omega, by go_num, fun j h h' hj => ?_, _, rfl⟩, by simp only [intOf]; omega⟩
          by_cases e : j = k
          · subst e; exact HE.out
          · exact HD.out j h h' (by omega)
        · have he' : (xs[k] != ys[k]) = true := by simp [he]
          have HE := hid he
          clear he
          go_wp2
          go_quiet (fail)
          go_wp2
          go_ret
          rw [World.drewN_drewN]
          exact HF.out false (decide_eq_false fun e => HE.out (by subst e; rfl)) _
      · go_wp2
        go_ret
        exact HF.out true (decide_eq_true (List.ext_getElem HL.out fun j h h' => HD.out j h h' (by omega))) _
  · have hne : ((xs.length : Int) != (ys.length : Int)) = true := by simp; omega
    have hne' : (xs.length != ys.length) = true := by simp; omega
    have HL := hid hl
    clear hl
    go_enter Tryz.func39, Tryz.ntmps39
    go_wp2
    go_ret
    exact HF.out false (decide_eq_false fun e => HL.out (by rw [e])) 0

theorem SameNat_any (v1 v2 : Value) (xs ys : List Int) (w : World) (h1 : IsInts w v1 xs) (h2 : IsInts w v2 ys) : Calls Tryz.prog 10 #[v1, v2] w (Says w (.bool (decide (xs = ys)))) := by
  have h := Equal_any v1 v2 xs ys w h1 h2
  have H := hid h
  clear h h1 h2
  generalize decide (xs = ys) = b at *
  go_enter Tryz.func10, Tryz.ntmps10
  go_wp2_with (go_at_call 39; refine H.out.mono ?_; rintro e w1 ⟨rfl, n, rfl⟩)
  go_ret
  exact ⟨rfl, _, rfl⟩
/-- Two naturals are the same just if they mean one number. -/
theorem SameNat_nat (v1 v2 : Value) (a b : Int) (w : World) (h1 : IsNat w v1 a) (h2 : IsNat w v2 b) : Calls Tryz.prog 10 #[v1, v2] w (Says w (.bool (decide (a = b)))) := by
  obtain ⟨xs, hx, rfl, i1⟩ := h1
  obtain ⟨ys, hy, rfl, i2⟩ := h2
  have e : decide (val xs = val ys) = decide (xs = ys) := by
    by_cases h : xs = ys
    · rw [h]; simp
    · rw [decide_eq_false h, decide_eq_false fun hv => h (canon_eq hx hy hv)]
  rw [e]
  exact SameNat_any v1 v2 xs ys w i1 i2

theorem number_any (v : Value) (zs : List Int) (w : World) (h : IsInts w v zs) : Calls Tryz.prog 26 #[v] w (Same w v) := by
  obtain ⟨A, c, rfl, _⟩ := h
  go_enter Tryz.func26, Tryz.ntmps26
  go_wp2
  go_ret
  exact ⟨rfl, rfl⟩

/-- A value of two naturals. -/
def IsOdds (w : World) (v : Value) (a b : Int) : Prop := ∃ v1 v2, v = .agg #[v1, v2] ∧ IsNatF w v1 a ∧ IsNatF w v2 b
theorem IsOdds.grow {w w' : World} {v : Value} {a b : Int} (h : IsOdds w v a b) (g : Grow w w') : IsOdds w' v a b := by
  obtain ⟨v1, v2, rfl, h1, h2⟩ := h
  exact ⟨v1, v2, rfl, h1.grow g, h2.grow g⟩

theorem SameOdds_any (v1 v2 : Value) (a b c d : Int) (w : World) (h1 : IsOdds w v1 a b) (h2 : IsOdds w v2 c d) : Calls Tryz.prog 23 #[v1, v2] w (Gives w (.bool (decide (a = c) && decide (b = d)))) := by
  obtain ⟨x1, x2, rfl, ⟨⟨zs1, k1, e1, A1, c1, rfl, r1⟩, _⟩, ⟨⟨zs2, k2, e2, A2, c2, rfl, r2⟩, _⟩⟩ := h1
  obtain ⟨y1, y2, rfl, ⟨⟨zs3, k3, e3, A3, c3, rfl, r3⟩, _⟩, ⟨⟨zs4, k4, e4, A4, c4, rfl, r4⟩, _⟩⟩ := h2
  have g0 : Grow w ((w.alloc (.cells #[.slice A1 zs1.length c1, .slice A2 zs2.length c2] 43)).alloc (.cells #[.slice A3 zs3.length c3, .slice A4 zs4.length c4] 43)) := ((Grow.refl _).alloc _).alloc _
  have s1 := fun W (hg : Grow w W) => SameNat_nat _ _ a c W (show IsNat W (.slice A1 zs1.length c1) a from IsNat.grow ⟨zs1, k1, e1, A1, c1, rfl, r1⟩ hg) (show IsNat W (.slice A3 zs3.length c3) c from IsNat.grow ⟨zs3, k3, e3, A3, c3, rfl, r3⟩ hg)
  have s2 := fun W (hg : Grow w W) => SameNat_nat _ _ b d W (show IsNat W (.slice A2 zs2.length c2) b from IsNat.grow ⟨zs2, k2, e2, A2, c2, rfl, r2⟩ hg) (show IsNat W (.slice A4 zs4.length c4) d from IsNat.grow ⟨zs4, k4, e4, A4, c4, rfl, r4⟩ hg)
  have S1 := hid s1
  have S2 := hid s2
  clear s1 s2 r1 r2 r3 r4 e1 e2 e3 e4 k1 k2 k3 k4
  generalize decide (a = c) = p at *
  generalize decide (b = d) = q at *
  cases p
  · go_enter Tryz.func23, Tryz.ntmps23
    go_wp2_with (go_at_call 10; refine (S1.out _ g0).mono ?_; rintro e w1 ⟨rfl, n, rfl⟩)
    go_ret
    exact ⟨rfl, g0.drewN _⟩
  · go_enter Tryz.func23, Tryz.ntmps23
    go_wp2_with fail
    refine (S1.out _ g0).mono ?_
    rintro e w1 ⟨rfl, n, rfl⟩
    go_wp2_with fail
    refine (S2.out _ (g0.drewN n)).mono ?_
    rintro e w1 ⟨rfl, n2, rfl⟩
    go_wp2
    go_ret
    exact ⟨by simp, g0.drewN _⟩
end Go.Proofs.YtomgilkchlediaaGreatDoor
