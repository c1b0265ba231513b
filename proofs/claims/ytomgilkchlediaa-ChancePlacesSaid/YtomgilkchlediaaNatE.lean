/-
  Walks: the checks of naturals; sums and products with their errors.
-/
import Derived.Test.YtomgilkchlediaaNatB
import Derived.Test.YtomgilkchlediaaNatC
import Derived.Test.YtomgilkchlediaaNatD
import Derived.Test.YtomgilkchlediaaIdx
namespace Go.Proofs.Ytomgilkchlediaa
open Go.RowKit

theorem checkNat1_any (z : Int) (w : World) : Calls Try.prog 66 #[.int .i64 z] w (Same w (.bool (digB z))) := by
  by_cases h : z < 0
  · rw [show digB z = true from by simp [digB, h]]
    go_enter Try.func66, Try.ntmps66
    go_wp2
    go_ret
    exact ⟨rfl, rfl⟩
  · rw [show digB z = decide (1000000000 ≤ z) from by simp [digB, h]]
    go_enter Try.func66, Try.ntmps66
    go_wp2
    go_ret
    exact ⟨rfl, rfl⟩

theorem checkNat_any (v : Value) (zs : List Int) (w : World) (h : IsInts w v zs) : Calls Try.prog 63 #[v] w (Same w (.int .i64 (natErr zs))) := by
  obtain ⟨A, c, rfl, hc, hm, hr⟩ := h
  have hcont := contains_nat A c zs digB w hc hm hr (fun z _ => checkNat1_any z w)
  unfold maxLen at hm
  by_cases h1 : 40 < zs.length
  · have e : natErr zs = 5 := by unfold natErr; rw [if_pos h1]
    rw [e]
    clear e hcont
    go_enter Try.func63, Try.ntmps63
    go_wp2
    go_ret
    exact ⟨rfl, rfl⟩
  · by_cases h2 : zs.any digB = true
    · have e : natErr zs = 2 := by unfold natErr; rw [if_neg h1, if_pos h2]
      rw [e]
      rw [h2] at hcont
      have HC := hid hcont
      clear e hcont h2
      go_enter Try.func63, Try.ntmps63
      go_wp2_with (go_at_call 65; refine HC.out.mono ?_; rintro e w' ⟨rfl, rfl⟩)
      go_ret
      exact ⟨rfl, rfl⟩
    · rw [show zs.any digB = false from by simpa using h2] at hcont
      have HC := hid hcont
      clear hcont
      by_cases h0 : 0 < zs.length
      · obtain ⟨ad, rfl, hb, hx⟩ := hr.int (k := zs.length - 1) (by omega)
        have e3 : zs.getLast? = some zs[zs.length - 1] := by rw [List.getLast?_eq_getElem?, List.getElem?_eq_getElem (by omega)]
        by_cases h3 : zs[zs.length - 1] = 0
        · have e : natErr zs = 3 := by unfold natErr; rw [if_neg h1, if_neg h2, if_pos (by rw [e3, h3])]
          have he : (zs[zs.length - 1] == 0) = true := by simp [h3]
          rw [e]
          clear e h3 e3 h2
          go_enter Try.func63, Try.ntmps63
          go_wp2_with (go_at_call 65; refine HC.out.mono ?_; rintro e w' ⟨rfl, rfl⟩)
          go_ret
          exact ⟨rfl, rfl⟩
        · have e : natErr zs = 0 := by unfold natErr; rw [if_neg h1, if_neg h2, if_neg (by rw [e3]; simpa using h3)]
          have he : (zs[zs.length - 1] == 0) = false := by simp [h3]
          rw [e]
          clear e h3 e3 h2
          go_enter Try.func63, Try.ntmps63
          go_wp2_with (go_at_call 65; refine HC.out.mono ?_; rintro e w' ⟨rfl, rfl⟩)
          go_ret
          exact ⟨rfl, rfl⟩
      · have hz : zs = [] := List.eq_nil_of_length_eq_zero (by omega)
        have e : natErr zs = 0 := by rw [hz]; exact natErr_canon Canon.nil (by simp)
        rw [e]
        clear e hz h2
        go_enter Try.func63, Try.ntmps63
        go_wp2_with (go_at_call 65; refine HC.out.mono ?_; rintro e w' ⟨rfl, rfl⟩)
        go_ret
        exact ⟨rfl, rfl⟩

theorem check_two (g : Nat) (v1 v2 : Value) (xs ys : List Int) (w : World) (c0 : w.cell? ⟨g, 0, none⟩ = some v1) (c1 : w.cell? ⟨g, 1, none⟩ = some v2) (h1 : IsInts w v1 xs) (h2 : IsInts w v2 ys) :
    Calls Try.prog 54 #[.slice (some ⟨g, 0, none⟩) 2 2] w (Same w (.int .i64 (err2 xs ys))) := by
  have k1 := checkNat_any v1 xs w h1
  have k2 := checkNat_any v2 ys w h2
  by_cases e1 : natErr xs = 0
  · rw [e1] at k1
    rw [show err2 xs ys = natErr ys from by unfold err2; rw [if_pos e1]]
    generalize natErr ys = n2 at *
    have K1 := hid k1
    have K2 := hid k2
    clear k1 k2 e1
    go_enter Try.func54, Try.ntmps54
    go_wp2
    go_loop [8] (fun i => i = .int .i64 0 ∨ i = .int .i64 1 ∨ (i = .int .i64 2 ∧ n2 = 0)) (fun i => 2 - (intOf i).toNat)
    case atStart => exact .inl rfl
    case round =>
      rcases hrel with rfl | rfl | ⟨rfl, rfl⟩
      · go_wp2_with (go_at_call 63; refine K1.out.mono ?_; rintro e w' ⟨rfl, rfl⟩)
        exact ⟨.inr (.inl rfl), by simp [intOf]⟩
      · by_cases e2 : n2 = 0
        · subst e2
          go_wp2_with (go_at_call 63; refine K2.out.mono ?_; rintro e w' ⟨rfl, rfl⟩)
          exact ⟨.inr (.inr (by simp)), by simp [intOf]⟩
        · have hne : (n2 != 0) = true := by simp [e2]
          go_wp2_with (go_at_call 63; refine K2.out.mono ?_; rintro e w' ⟨rfl, rfl⟩)
          go_ret
          exact ⟨rfl, rfl⟩
      · go_wp2
        go_ret
        exact ⟨rfl, rfl⟩
  · rw [show err2 xs ys = natErr xs from by unfold err2; rw [if_neg e1]]
    generalize natErr xs = n1 at *
    have K1 := hid k1
    have hne : (n1 != 0) = true := by simp [e1]
    clear k1 k2
    go_enter Try.func54, Try.ntmps54
    go_wp2
    go_loop [8] (fun i => i = .int .i64 0) (fun i => 2 - (intOf i).toNat)
    case atStart => rfl
    case round =>
      subst hrel
      go_wp2_with (go_at_call 63; refine K1.out.mono ?_; rintro e w' ⟨rfl, rfl⟩)
      go_ret
      exact ⟨rfl, rfl⟩

/-- A natural that is not too long, or the error. -/
def ShortRes (w : World) (n : Int) (e : Ending) (w' : World) : Prop :=
  ∃ v er, e = .returned (.tuple #[v, .int .i64 er]) ∧ Grow w w' ∧ ((er = 0 ∧ n < radix 40 ∧ IsNat w' v n) ∨ (er = 5 ∧ radix 40 ≤ n ∧ v = .slice none 0 0))

/-- The result of Sum or Product of two lists, if both are naturals: n. -/
def OpRes (w : World) (xs ys : List Int) (n : Int) (e : Ending) (w' : World) : Prop :=
  ∃ v er, e = .returned (.tuple #[v, .int .i64 er]) ∧ Grow w w' ∧
    ((err2 xs ys ≠ 0 ∧ er = err2 xs ys ∧ v = .slice none 0 0) ∨ (err2 xs ys = 0 ∧ er = 0 ∧ n < radix 40 ∧ IsNat w' v n) ∨ (err2 xs ys = 0 ∧ er = 5 ∧ radix 40 ≤ n ∧ v = .slice none 0 0))

theorem err2_ok {xs ys : List Int} (h : err2 xs ys = 0) : natErr xs = 0 ∧ natErr ys = 0 := by
  unfold err2 at h
  by_cases e : natErr xs = 0
  · rw [if_pos e] at h; exact ⟨e, h⟩
  · rw [if_neg e] at h; exact absurd h e
theorem isNat_of {w : World} {v : Value} {zs : List Int} (h : IsInts w v zs) (e : natErr zs = 0) : IsNat w v (val zs) := ⟨zs, (natErr_ok e).1, rfl, h⟩
theorem small_of_ok {zs : List Int} (e : natErr zs = 0) : Small (val zs) := small_of_len (natErr_ok e).1.1 (by have := (natErr_ok e).2; omega)

end Go.Proofs.Ytomgilkchlediaa
