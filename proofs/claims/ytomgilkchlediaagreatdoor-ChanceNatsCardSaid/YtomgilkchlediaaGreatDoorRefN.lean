/-
  Walks of the reference's Sum, Product and Compare, and of the copy of a natural.
-/
import Derived.Test.YtomgilkchlediaaGreatDoorRefB
import Derived.Test.YtomgilkchlediaaGreatDoorRefC
import Derived.Test.YtomgilkchlediaaGreatDoorRefL
import Derived.Test.YtomgilkchlediaaGreatDoorNatG
import Derived.Test.YtomgilkchlediaaGreatDoorClone
namespace Go.Proofs.YtomgilkchlediaaGreatDoor
open Go.RowKit

theorem both_any (v1 v2 : Value) (xs ys : List Int) (w : World) (h1 : IsInts w v1 xs) (h2 : IsInts w v2 ys) :
    Calls Tryz.prog 45 #[v1, v2] w (Same w (.int .i64 (err2 xs ys))) := by
  have k1 := rCheckNat_any v1 xs w h1
  have k2 := rCheckNat_any v2 ys w h2
  obtain ⟨A1, c1, rfl, _⟩ := id h1
  obtain ⟨A2, c2, rfl, _⟩ := id h2
  unfold err2
  by_cases e1 : natErr xs = 0
  · rw [if_pos e1]
    rw [e1] at k1
    have K1 := hid k1
    have K2 := hid k2
    clear k1 k2 e1
    generalize natErr ys = n2 at *
    go_enter Tryz.func45, Tryz.ntmps45
    go_wp2_with fail
    refine K1.out.mono ?_
    rintro e w' ⟨rfl, rfl⟩
    go_wp2_with fail
    refine K2.out.mono ?_
    rintro e w' ⟨rfl, rfl⟩
    go_wp2
    go_ret
    exact ⟨rfl, rfl⟩
  · rw [if_neg e1]
    have K1 := hid k1
    have hne : (natErr xs != 0) = true := by simp [e1]
    clear k1 k2 e1
    generalize natErr xs = n1 at *
    go_enter Tryz.func45, Tryz.ntmps45
    go_wp2_with fail
    refine K1.out.mono ?_
    rintro e w' ⟨rfl, rfl⟩
    go_wp2
    go_ret
    exact ⟨rfl, rfl⟩

theorem rSum_any (v1 v2 : Value) (xs ys : List Int) (w : World) (h1 : IsInts w v1 xs) (h2 : IsInts w v2 ys) :
    Calls Tryz.prog 16 #[v1, v2] w (OpRes w xs ys (val xs + val ys)) := by
  have k1 := both_any v1 v2 xs ys w h1 h2
  obtain ⟨A1, c1, rfl, _⟩ := id h1
  obtain ⟨A2, c2, rfl, _⟩ := id h2
  by_cases e : err2 xs ys = 0
  · have hs := add_any _ _ (val xs) (val ys) w (isNat_of h1 (err2_ok e).1) (isNat_of h2 (err2_ok e).2) (small_of_ok (err2_ok e).1) (small_of_ok (err2_ok e).2)
    rw [e] at k1
    have K1 := hid k1
    have HS := hid hs
    have HE := hid e
    clear k1 hs e
    generalize val xs + val ys = n at *
    go_enter Tryz.func16, Tryz.ntmps16
    go_wp2_with fail
    refine K1.out.mono ?_
    rintro e w' ⟨rfl, rfl⟩
    go_wp2_with fail
    refine HS.out.mono ?_
    rintro e w1 ⟨v, rfl, hn, hg⟩
    have HN := hid hn.1
    obtain ⟨zs, hcz, rfl, A, c, rfl, hc, hm, hr⟩ := id hn.1
    unfold maxLen at hm
    by_cases hl : 40 < zs.length
    · have hv : radix 40 ≤ val zs := by
        have h1 := hcz.lower (by omega)
        have h2 := radix_mono (show 40 ≤ zs.length - 1 by omega)
        omega
      have HV := hid hv
      clear hv hn hcz hr
      go_wp2
      go_ret2
      exact ⟨_, _, rfl, hg, .inr (.inr ⟨HE.out, rfl, HV.out, rfl⟩)⟩
    · have hv : val zs < radix 40 := by
        have h1 := val_lt hcz.1
        have h2 := radix_mono (show zs.length ≤ 40 by omega)
        omega
      have HV := hid hv
      clear hv hn hcz hr
      go_wp2
      go_ret2
      exact ⟨_, _, rfl, hg, .inr (.inl ⟨HE.out, rfl, HV.out, HN.out⟩)⟩
  · have hne : (err2 xs ys != 0) = true := by simp [e]
    have K1 := hid k1
    have HE := hid e
    clear k1 e
    unfold OpRes
    generalize val xs + val ys = n at *
    generalize err2 xs ys = n2 at *
    go_enter Tryz.func16, Tryz.ntmps16
    go_wp2_with fail
    refine K1.out.mono ?_
    rintro e w' ⟨rfl, rfl⟩
    go_wp2
    go_ret2
    exact ⟨_, _, rfl, Grow.refl _, .inl ⟨HE.out, rfl, rfl⟩⟩

theorem rProduct_any (v1 v2 : Value) (xs ys : List Int) (w : World) (h1 : IsInts w v1 xs) (h2 : IsInts w v2 ys) :
    Calls Tryz.prog 18 #[v1, v2] w (OpRes w xs ys (val xs * val ys)) := by
  have k1 := both_any v1 v2 xs ys w h1 h2
  obtain ⟨A1, c1, rfl, _⟩ := id h1
  obtain ⟨A2, c2, rfl, _⟩ := id h2
  by_cases e : err2 xs ys = 0
  · have hs := times_any _ _ (val xs) (val ys) w (isNat_of h1 (err2_ok e).1) (isNat_of h2 (err2_ok e).2) (small_of_ok (err2_ok e).1) (small_of_ok (err2_ok e).2)
    rw [e] at k1
    have K1 := hid k1
    have HS := hid hs
    have HE := hid e
    clear k1 hs e
    generalize val xs * val ys = n at *
    go_enter Tryz.func18, Tryz.ntmps18
    go_wp2_with fail
    refine K1.out.mono ?_
    rintro e w' ⟨rfl, rfl⟩
    go_wp2_with fail
    refine HS.out.mono ?_
    rintro e w1 ⟨v, rfl, hn, hg⟩
    have HN := hid hn.1
    obtain ⟨zs, hcz, rfl, A, c, rfl, hc, hm, hr⟩ := id hn.1
    unfold maxLen at hm
    by_cases hl : 40 < zs.length
    · have hv : radix 40 ≤ val zs := by
        have h1 := hcz.lower (by omega)
        have h2 := radix_mono (show 40 ≤ zs.length - 1 by omega)
        omega
      have HV := hid hv
      clear hv hn hcz hr
      go_wp2
      go_ret2
      exact ⟨_, _, rfl, hg, .inr (.inr ⟨HE.out, rfl, HV.out, rfl⟩)⟩
    · have hv : val zs < radix 40 := by
        have h1 := val_lt hcz.1
        have h2 := radix_mono (show zs.length ≤ 40 by omega)
        omega
      have HV := hid hv
      clear hv hn hcz hr
      go_wp2
      go_ret2
      exact ⟨_, _, rfl, hg, .inr (.inl ⟨HE.out, rfl, HV.out, HN.out⟩)⟩
  · have hne : (err2 xs ys != 0) = true := by simp [e]
    have K1 := hid k1
    have HE := hid e
    clear k1 e
    unfold OpRes
    generalize val xs * val ys = n at *
    generalize err2 xs ys = n2 at *
    go_enter Tryz.func18, Tryz.ntmps18
    go_wp2_with fail
    refine K1.out.mono ?_
    rintro e w' ⟨rfl, rfl⟩
    go_wp2
    go_ret2
    exact ⟨_, _, rfl, Grow.refl _, .inl ⟨HE.out, rfl, rfl⟩⟩

theorem rCompare_any (v1 v2 : Value) (xs ys : List Int) (w : World) (h1 : IsInts w v1 xs) (h2 : IsInts w v2 ys) :
    Calls Tryz.prog 20 #[v1, v2] w (Says w (.int .i64 (if err2 xs ys = 0 then cmpI (val xs) (val ys) else 0))) := by
  have k1 := rCheckNat_any v1 xs w h1
  have k2 := rCheckNat_any v2 ys w h2
  obtain ⟨A1, c1, rfl, _⟩ := id h1
  obtain ⟨A2, c2, rfl, _⟩ := id h2
  by_cases e1 : natErr xs = 0
  · by_cases e2 : natErr ys = 0
    · have he : err2 xs ys = 0 := by unfold err2; rw [if_pos e1, e2]
      rw [if_pos he]
      rw [e1] at k1
      rw [e2] at k2
      have lt1 := less_any _ _ (val xs) (val ys) w (isNat_of h1 e1) (isNat_of h2 e2)
      have lt2 := fun n => less_any _ _ (val ys) (val xs) (w.drewN n) (isNat_of (h2.grow ((Grow.refl _).drewN n)) e2) (isNat_of (h1.grow ((Grow.refl _).drewN n)) e1)
      have K1 := hid k1
      have K2 := hid k2
      clear k1 k2 he e1 e2 h1 h2
      generalize val xs = x at *
      generalize val ys = y at *
      rcases Int.lt_trichotomy x y with h | h | h
      · rw [decide_eq_true h] at lt1
        have HH := hid (cmpI_lt h)
        have L1 := hid lt1
        clear lt1 lt2 h
        go_enter Tryz.func20, Tryz.ntmps20
        go_wp2_with (first
          | (go_at_call_of 14 (Value.slice A1 xs.length c1); refine K1.out.mono ?_; rintro e w' ⟨rfl, rfl⟩)
          | (go_at_call_of 14 (Value.slice A2 ys.length c2); refine K2.out.mono ?_; rintro e w' ⟨rfl, rfl⟩))
        refine L1.out.mono ?_
        rintro e w5 ⟨rfl, m, rfl⟩
        go_wp2
        go_ret
        exact ⟨by rw [HH.out]; rfl, m, rfl⟩
      · have HH := hid (show cmpI x y = 0 from by rw [h, cmpI_eq])
        rw [decide_eq_false (show ¬ x < y from fun hh => Int.lt_irrefl _ (h ▸ hh))] at lt1
        have lt2' : ∀ n, _ := fun n => by
          have := lt2 n
          rw [decide_eq_false (show ¬ y < x from fun hh => Int.lt_irrefl _ (h ▸ hh))] at this
          exact this
        have L1 := hid lt1
        have L2 := hid lt2'
        clear lt1 lt2 lt2' h
        go_enter Tryz.func20, Tryz.ntmps20
        go_wp2_with (first
          | (go_at_call_of 14 (Value.slice A1 xs.length c1); refine K1.out.mono ?_; rintro e w' ⟨rfl, rfl⟩)
          | (go_at_call_of 14 (Value.slice A2 ys.length c2); refine K2.out.mono ?_; rintro e w' ⟨rfl, rfl⟩))
        refine L1.out.mono ?_
        rintro e w5 ⟨rfl, m, rfl⟩
        go_wp2_with fail
        refine (L2.out m).mono ?_
        rintro e w6 ⟨rfl, m6, rfl⟩
        go_wp2
        go_ret
        exact ⟨by rw [HH.out]; rfl, m + m6, rfl⟩
      · rw [decide_eq_false (show ¬ x < y from fun hh => Int.lt_irrefl _ (Int.lt_trans hh h))] at lt1
        have lt2' : ∀ n, _ := fun n => by
          have := lt2 n
          rw [decide_eq_true h] at this
          exact this
        have HH := hid (cmpI_gt h)
        have L1 := hid lt1
        have L2 := hid lt2'
        clear lt1 lt2 lt2' h
        go_enter Tryz.func20, Tryz.ntmps20
        go_wp2_with (first
          | (go_at_call_of 14 (Value.slice A1 xs.length c1); refine K1.out.mono ?_; rintro e w' ⟨rfl, rfl⟩)
          | (go_at_call_of 14 (Value.slice A2 ys.length c2); refine K2.out.mono ?_; rintro e w' ⟨rfl, rfl⟩))
        refine L1.out.mono ?_
        rintro e w5 ⟨rfl, m, rfl⟩
        go_wp2_with fail
        refine (L2.out m).mono ?_
        rintro e w6 ⟨rfl, m6, rfl⟩
        go_wp2
        go_ret
        exact ⟨by rw [HH.out]; rfl, m + m6, rfl⟩
    · have he : ¬ err2 xs ys = 0 := by unfold err2; rw [if_pos e1]; exact e2
      rw [if_neg he]
      rw [e1] at k1
      have hne : (natErr ys != 0) = true := by simp [e2]
      have K1 := hid k1
      have K2 := hid k2
      clear k1 k2 he e1 e2
      generalize natErr ys = n2 at *
      go_enter Tryz.func20, Tryz.ntmps20
      go_wp2_with (first
        | (go_at_call_of 14 (Value.slice A1 xs.length c1); refine K1.out.mono ?_; rintro e w' ⟨rfl, rfl⟩)
        | (go_at_call_of 14 (Value.slice A2 ys.length c2); refine K2.out.mono ?_; rintro e w' ⟨rfl, rfl⟩))
      go_ret
      exact ⟨rfl, 0, rfl⟩
  · have he : ¬ err2 xs ys = 0 := by unfold err2; rw [if_neg e1]; exact e1
    rw [if_neg he]
    have hne : (natErr xs != 0) = true := by simp [e1]
    have K1 := hid k1
    clear k1 k2 he e1
    generalize natErr xs = n1 at *
    go_enter Tryz.func20, Tryz.ntmps20
    go_wp2_with (go_at_call 14; refine K1.out.mono ?_; rintro e w' ⟨rfl, rfl⟩)
    go_ret
    exact ⟨rfl, 0, rfl⟩

set_option maxRecDepth 100000 in
theorem OwnNat_any (v : Value) (zs : List Int) (w : World) (h : IsInts w v zs) (hl : zs.length ≤ 1000000) :
    Calls Tryz.prog 11 #[v] w (CloneRes w zs) := by
  obtain ⟨i0, hi0, hz0, hz1, hz2⟩ := info_parts infoInt
  obtain ⟨A, c, rfl, hc, hm, hr⟩ := id h
  cases A with
  | none =>
    have hz : zs = [] := by
      cases zs with
      | nil => rfl
      | cons z zs => obtain ⟨ad, h, _⟩ := hr.int (k := 0) (by simp); cases h
    subst hz
    go_enter Tryz.func11, Tryz.ntmps11
    go_wp2
    go_ret
    exact ⟨_, rfl, Own.nil _ _, Grow.refl _⟩
  | some ad =>
    have hcells : ∀ (j : Nat) (u : Value), (ints zs)[j]? = some u → w.cell? (ad.add j) = some u := fun j u hu => by
      obtain ⟨ad', h1, _, h2⟩ := hr j u hu
      obtain rfl := Option.some.inj h1
      exact h2
    have HO := hid (Own.nil w w)
    have HC := hid hcells
    clear hcells
    go_enter Tryz.func11, Tryz.ntmps11
    go_wp2_with (at_builtin; refine wpList_append_own _ rfl (.const (.slice none 0 0)) (.tmp 3) _ rfl w.heap.size 3 i0 _ 1 8 Tryz.underlying24 hi0 hz0 hz1 hz2 rfl (by decide) (.slice none 0 0) 0 (ints []) rfl HO.out ad zs.length c (ints zs) rfl (by simp) HC.out (ints_oneCell _ _) (by unfold maxLen; omega) (by omega) (by simp) ?_; intro v' w' hown' hg' _)
    go_ret
    refine ⟨v', rfl, ?_, (Grow.refl _).own hg' (fun k hk => by simp [Value.ownBlock] at hk)⟩
    unfold Own
    simpa using hown'
end Go.Proofs.YtomgilkchlediaaGreatDoor
