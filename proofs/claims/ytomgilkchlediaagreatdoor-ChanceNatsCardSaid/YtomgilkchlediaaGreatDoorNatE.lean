/-
  Walks: the checks of naturals; sums and products with their errors.
-/
import Derived.Test.YtomgilkchlediaaGreatDoorNatB
import Derived.Test.YtomgilkchlediaaGreatDoorNatC
import Derived.Test.YtomgilkchlediaaGreatDoorNatD
import Derived.Test.YtomgilkchlediaaGreatDoorIdx
namespace Go.Proofs.YtomgilkchlediaaGreatDoor
open Go.RowKit

theorem checkNat1_any (z : Int) (w : World) : Calls Tryz.prog 42 #[.int .i64 z] w (Same w (.bool (digB z))) := by
  by_cases h : z < 0
  · rw [show digB z = true from by simp [digB, h]]
    go_enter Tryz.func42, Tryz.ntmps42
    go_wp2
    go_ret
    exact ⟨rfl, rfl⟩
  · rw [show digB z = decide (1000000000 ≤ z) from by simp [digB, h]]
    go_enter Tryz.func42, Tryz.ntmps42
    go_wp2
    go_ret
    exact ⟨rfl, rfl⟩

theorem checkNat_any (v : Value) (zs : List Int) (w : World) (h : IsInts w v zs) : Calls Tryz.prog 13 #[v] w (Same w (.int .i64 (natErr zs))) := by
  obtain ⟨A, c, rfl, hc, hm, hr⟩ := h
  have hcont := contains_nat A c zs digB w hc hm hr (fun z _ => checkNat1_any z w)
  unfold maxLen at hm
  by_cases h1 : 40 < zs.length
  · have e : natErr zs = 5 := by unfold natErr; rw [if_pos h1]
    rw [e]
    clear e hcont
    go_enter Tryz.func13, Tryz.ntmps13
    go_wp2
    go_ret
    exact ⟨rfl, rfl⟩
  · by_cases h2 : zs.any digB = true
    · have e : natErr zs = 2 := by unfold natErr; rw [if_neg h1, if_pos h2]
      rw [e]
      rw [h2] at hcont
      have HC := hid hcont
      clear e hcont h2
      go_enter Tryz.func13, Tryz.ntmps13
      go_wp2_with (go_at_call 41; refine HC.out.mono ?_; rintro e w' ⟨rfl, rfl⟩)
      go_ret
      exact ⟨rfl, rfl⟩
    · rw [show zs.any digB = false from by simpa using h2] at hcont
      have HC := hid hcont
      clear hcont
      by_cases h0 : 0 < zs.length
      · obtain ⟨ad, rfl, hb, hx⟩ := hr.int (k := zs.length - 1) (by omega)
        have e3 : zs.getLast? = some zs[zs.length - 1] := by rw [List.getLast?_eq_getElem?, List.getElem?_eq_getElem (by omega)]
        by_cases h3 : zs[zs.length - 1] = 0
        · have e : natErr zs = 3 := by unfold natErr; rw [if_neg h1, if_neg h2, if_pos (by rw [e3, h3])]
          have he : (zs[zs.length - 1] == 0) = true := by simp [h3]
          rw [e]
          clear e h3 e3 h2
          go_enter Tryz.func13, Tryz.ntmps13
          go_wp2_with (go_at_call 41; refine HC.out.mono ?_; rintro e w' ⟨rfl, rfl⟩)
          go_ret
          exact ⟨rfl, rfl⟩
        · have e : natErr zs = 0 := by unfold natErr; rw [if_neg h1, if_neg h2, if_neg (by rw [e3]; simpa using h3)]
          have he : (zs[zs.length - 1] == 0) = false := by simp [h3]
          rw [e]
          clear e h3 e3 h2
          go_enter Tryz.func13, Tryz.ntmps13
          go_wp2_with (go_at_call 41; refine HC.out.mono ?_; rintro e w' ⟨rfl, rfl⟩)
          go_ret
          exact ⟨rfl, rfl⟩
      · have hz : zs = [] := List.eq_nil_of_length_eq_zero (by omega)
        have e : natErr zs = 0 := by rw [hz]; exact natErr_canon Canon.nil (by simp)
        rw [e]
        clear e hz h2
        go_enter Tryz.func13, Tryz.ntmps13
        go_wp2_with (go_at_call 41; refine HC.out.mono ?_; rintro e w' ⟨rfl, rfl⟩)
        go_ret
        exact ⟨rfl, rfl⟩

theorem check_two (g : Nat) (v1 v2 : Value) (xs ys : List Int) (w : World) (c0 : w.cell? ⟨g, 0, none⟩ = some v1) (c1 : w.cell? ⟨g, 1, none⟩ = some v2) (h1 : IsInts w v1 xs) (h2 : IsInts w v2 ys) :
    Calls Tryz.prog 30 #[.slice (some ⟨g, 0, none⟩) 2 2] w (Same w (.int .i64 (err2 xs ys))) := by
  have k1 := checkNat_any v1 xs w h1
  have k2 := checkNat_any v2 ys w h2
  by_cases e1 : natErr xs = 0
  · rw [e1] at k1
    rw [show err2 xs ys = natErr ys from by unfold err2; rw [if_pos e1]]
    generalize natErr ys = n2 at *
    have K1 := hid k1
    have K2 := hid k2
    clear k1 k2 e1
    go_enter Tryz.func30, Tryz.ntmps30
    go_wp2
    go_loop [8] (fun i => i = .int .i64 0 ∨ i = .int .i64 1 ∨ (i = .int .i64 2 ∧ n2 = 0)) (fun i => 2 - (intOf i).toNat)
    case atStart => exact .inl rfl
    case round =>
      rcases hrel with rfl | rfl | ⟨rfl, rfl⟩
      · go_wp2_with (go_at_call 13; refine K1.out.mono ?_; rintro e w' ⟨rfl, rfl⟩)
        exact ⟨.inr (.inl rfl), by simp [intOf]⟩
      · by_cases e2 : n2 = 0
        · subst e2
          go_wp2_with (go_at_call 13; refine K2.out.mono ?_; rintro e w' ⟨rfl, rfl⟩)
          exact ⟨.inr (.inr (by simp)), by simp [intOf]⟩
        · have hne : (n2 != 0) = true := by simp [e2]
          go_wp2_with (go_at_call 13; refine K2.out.mono ?_; rintro e w' ⟨rfl, rfl⟩)
          go_ret
          exact ⟨rfl, rfl⟩
      · go_wp2
        go_ret
        exact ⟨rfl, rfl⟩
  · rw [show err2 xs ys = natErr xs from by unfold err2; rw [if_neg e1]]
    generalize natErr xs = n1 at *
    have K1 := hid k1
    have hne : (n1 != 0) = true := by simp [e1]
    clear k1 k2
    go_enter Tryz.func30, Tryz.ntmps30
    go_wp2
    go_loop [8] (fun i => i = .int .i64 0) (fun i => 2 - (intOf i).toNat)
    case atStart => rfl
    case round =>
      subst hrel
      go_wp2_with (go_at_call 13; refine K1.out.mono ?_; rintro e w' ⟨rfl, rfl⟩)
      go_ret
      exact ⟨rfl, rfl⟩

/-- A natural that is not too long, or the error. -/
def ShortRes (w : World) (n : Int) (e : Ending) (w' : World) : Prop :=
  ∃ v er, e = .returned (.tuple #[v, .int .i64 er]) ∧ Grow w w' ∧ ((er = 0 ∧ n < radix 40 ∧ IsNat w' v n) ∨ (er = 5 ∧ radix 40 ≤ n ∧ v = .slice none 0 0))

theorem short_any (v : Value) (n : Int) (w : World) (h : IsNat w v n) : Calls Tryz.prog 43 #[v] w (ShortRes w n) := by
  have h' := h
  obtain ⟨zs, hcx, rfl, A, c, rfl, hc, hm, hr⟩ := h
  unfold maxLen at hm
  by_cases hl : 40 < zs.length
  · have hv : radix 40 ≤ val zs := by
      have h1 := hcx.lower (by omega)
      have h2 := radix_mono (show 40 ≤ zs.length - 1 by omega)
      omega
    have HV := hid hv
    clear hv
    go_enter Tryz.func43, Tryz.ntmps43
    go_wp2
    go_ret2
    exact ⟨_, _, rfl, Grow.refl _, .inr ⟨rfl, HV.out, rfl⟩⟩
  · have hv : val zs < radix 40 := by
      have h1 := val_lt hcx.1
      have h2 := radix_mono (show zs.length ≤ 40 by omega)
      omega
    have HV := hid hv
    clear hv
    go_enter Tryz.func43, Tryz.ntmps43
    go_wp2
    go_ret2
    exact ⟨_, _, rfl, Grow.refl _, .inl ⟨rfl, HV.out, h'⟩⟩

/-- The result of Sum or Product of two lists, if both are naturals: n. -/
def OpRes (w : World) (xs ys : List Int) (n : Int) (e : Ending) (w' : World) : Prop :=
  ∃ v er, e = .returned (.tuple #[v, .int .i64 er]) ∧ Grow w w' ∧
    ((err2 xs ys ≠ 0 ∧ er = err2 xs ys ∧ v = .slice none 0 0) ∨ (err2 xs ys = 0 ∧ er = 0 ∧ n < radix 40 ∧ IsNat w' v n) ∨ (err2 xs ys = 0 ∧ er = 5 ∧ radix 40 ≤ n ∧ v = .slice none 0 0))

theorem err2_ok {xs ys : List Int} (h : err2 xs ys = 0) : natErr xs = 0 ∧ natErr ys = 0 := by
  unfold err2 at h
  by_cases e : natErr xs = 0
  · rw [if_pos e] at h; exact ⟨e, h⟩
  · rw [if_neg e] at h; exact absurd h e
theorem isNat_of {w : World} {v : Value} {zs : List Int} (h : IsInts w v zs) (e : natErr zs = 0) : IsNat w v (val zs) := ⟨zs, (natErr_ok e).1, rfl, h⟩
theorem small_of_ok {zs : List Int} (e : natErr zs = 0) : Small (val zs) := small_of_len (natErr_ok e).1.1 (by have := (natErr_ok e).2; omega)

theorem Sum_any (v1 v2 : Value) (xs ys : List Int) (w : World) (h1 : IsInts w v1 xs) (h2 : IsInts w v2 ys) :
    Calls Tryz.prog 15 #[v1, v2] w (OpRes w xs ys (val xs + val ys)) := by
  obtain ⟨A1, c1, rfl, _⟩ := id h1
  obtain ⟨A2, c2, rfl, _⟩ := id h2
  have hck := check_two w.heap.size _ _ xs ys (w.alloc (.cells #[.slice A1 xs.length c1, .slice A2 ys.length c2] 24)) (by simp) (by simp) (h1.grow ((Grow.refl _).alloc _)) (h2.grow ((Grow.refl _).alloc _))
  by_cases e : err2 xs ys = 0
  · have hs := sum_any _ _ (val xs) (val ys) (w.alloc (.cells #[.slice A1 xs.length c1, .slice A2 ys.length c2] 24)) ((isNat_of h1 (err2_ok e).1).grow ((Grow.refl _).alloc _)) ((isNat_of h2 (err2_ok e).2).grow ((Grow.refl _).alloc _)) (small_of_ok (err2_ok e).1) (small_of_ok (err2_ok e).2)
    rw [e] at hck
    have HC := hid hck
    have HS := hid hs
    have HE := hid e
    clear hck hs e
    generalize val xs + val ys = n at *
    go_enter Tryz.func15, Tryz.ntmps15
    go_wp2_with (first
      | (go_at_call 30; go_loud (refine HC.out.mono ?_); rintro e w' ⟨rfl, rfl⟩)
      | (go_at_call 44; refine HS.out.mono ?_; rintro e w1 ⟨v, rfl, hn, hg⟩)
      | (go_at_call 43; refine (short_any _ n _ hn.1).mono ?_; rintro e w2 ⟨v', er, rfl, hg2, hres⟩))
    go_ret2
    refine ⟨v', er, rfl, (((Grow.refl _).alloc _).trans hg).trans hg2, .inr ?_⟩
    rcases hres with ⟨h3, h4, h5⟩ | ⟨h3, h4, h5⟩
    · exact .inl ⟨HE.out, h3, h4, h5⟩
    · exact .inr ⟨HE.out, h3, h4, h5⟩
  · have hne : (err2 xs ys != 0) = true := by simp [e]
    have HC := hid hck
    have HE := hid e
    clear hck e
    unfold OpRes
    generalize val xs + val ys = n at *
    generalize err2 xs ys = n2 at *
    go_enter Tryz.func15, Tryz.ntmps15
    go_wp2_with (go_at_call 30; go_loud (refine HC.out.mono ?_); rintro e w' ⟨rfl, rfl⟩)
    go_ret2
    exact ⟨_, _, rfl, (Grow.refl _).alloc _, .inl ⟨HE.out, rfl, rfl⟩⟩

theorem Product_any (v1 v2 : Value) (xs ys : List Int) (w : World) (h1 : IsInts w v1 xs) (h2 : IsInts w v2 ys) :
    Calls Tryz.prog 17 #[v1, v2] w (OpRes w xs ys (val xs * val ys)) := by
  obtain ⟨A1, c1, rfl, _⟩ := id h1
  obtain ⟨A2, c2, rfl, _⟩ := id h2
  have hck := check_two w.heap.size _ _ xs ys (w.alloc (.cells #[.slice A1 xs.length c1, .slice A2 ys.length c2] 24)) (by simp) (by simp) (h1.grow ((Grow.refl _).alloc _)) (h2.grow ((Grow.refl _).alloc _))
  by_cases e : err2 xs ys = 0
  · have hs := product_any _ _ (val xs) (val ys) (w.alloc (.cells #[.slice A1 xs.length c1, .slice A2 ys.length c2] 24)) ((isNat_of h1 (err2_ok e).1).grow ((Grow.refl _).alloc _)) ((isNat_of h2 (err2_ok e).2).grow ((Grow.refl _).alloc _)) (small_of_ok (err2_ok e).1) (small_of_ok (err2_ok e).2)
    rw [e] at hck
    have HC := hid hck
    have HS := hid hs
    have HE := hid e
    clear hck hs e
    generalize val xs * val ys = n at *
    go_enter Tryz.func17, Tryz.ntmps17
    go_wp2_with (first
      | (go_at_call 30; go_loud (refine HC.out.mono ?_); rintro e w' ⟨rfl, rfl⟩)
      | (go_at_call 47; refine HS.out.mono ?_; rintro e w1 ⟨v, rfl, hn, hg⟩)
      | (go_at_call 43; refine (short_any _ n _ hn.1).mono ?_; rintro e w2 ⟨v', er, rfl, hg2, hres⟩))
    go_ret2
    refine ⟨v', er, rfl, (((Grow.refl _).alloc _).trans hg).trans hg2, .inr ?_⟩
    rcases hres with ⟨h3, h4, h5⟩ | ⟨h3, h4, h5⟩
    · exact .inl ⟨HE.out, h3, h4, h5⟩
    · exact .inr ⟨HE.out, h3, h4, h5⟩
  · have hne : (err2 xs ys != 0) = true := by simp [e]
    have HC := hid hck
    have HE := hid e
    clear hck e
    unfold OpRes
    generalize val xs * val ys = n at *
    generalize err2 xs ys = n2 at *
    go_enter Tryz.func17, Tryz.ntmps17
    go_wp2_with (go_at_call 30; go_loud (refine HC.out.mono ?_); rintro e w' ⟨rfl, rfl⟩)
    go_ret2
    exact ⟨_, _, rfl, (Grow.refl _).alloc _, .inl ⟨HE.out, rfl, rfl⟩⟩
end Go.Proofs.YtomgilkchlediaaGreatDoor
