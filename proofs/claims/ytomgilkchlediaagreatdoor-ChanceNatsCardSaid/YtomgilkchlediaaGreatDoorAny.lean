/-
  Walks: unseen tiles, kinds, draws that have one of some kinds.
-/
import Derived.Test.YtomgilkchlediaaGreatDoorClone
import Derived.Test.YtomgilkchlediaaGreatDoorCount
import Derived.Test.YtomgilkchlediaaGreatDoorIdx
import Derived.Test.YtomgilkchlediaaGreatDoorKit
namespace Go.Proofs.YtomgilkchlediaaGreatDoor
open Go.RowKit

theorem all_any (v : Value) (zs : List Int) (w : World) (h : IsInts w v zs) (hw : Within (-1000000) 1000000 zs) (hl : zs.length ≤ 100000) : Calls Tryz.prog 54 #[v] w (Same w (.int .i64 (sumI zs))) := by
  obtain ⟨A, c, rfl, hc, hm, hr⟩ := h
  unfold maxLen at hm
  have HW := hid hw
  clear hw
  go_enter Tryz.func54, Tryz.ntmps54
  go_wp2
  go_loop [3, 8] (fun n i => ∃ k : Nat, k ≤ zs.length ∧ i = .int .i64 (k : Int) ∧ n = .int .i64 (sumI (zs.take k))) (fun _ i => zs.length - (intOf i).toNat)
  case atStart => exact ⟨0, Nat.zero_le _, rfl, rfl⟩
  case round =>
    obtain ⟨k, hk, rfl, rfl⟩ := hrel
    have hb := (HW.out.take k).sum
    have hlk : (zs.take k).length = k := by rw [List.length_take]; omega
    rw [hlk] at hb
    have hb1 : -1000000 * 100000 ≤ sumI (zs.take k) ∧ sumI (zs.take k) ≤ 1000000 * 100000 := by omega
    clear hb hlk
    by_cases hlt : k < zs.length
    · obtain ⟨ad, rfl, hba, hx⟩ := hr.int hlt
      have bx := HW.out.at_ hlt
      have HS := hid (sumI_take zs hlt)
      go_wp2
      exact ⟨⟨k + 1, by omega, by go_num, by rw [HS.out]⟩, by simp only [intOf]; omega⟩
    · have e : zs.take k = zs := List.take_of_length_le (by omega)
      rw [e] at hb1 ⊢
      clear e
      go_wp2
      go_ret
      exact ⟨rfl, rfl⟩

theorem outside1_any (z most : Int) (g : Nat) (w : World) (hc : w.cell? ⟨g, 0, none⟩ = some (.int .i64 most)) : Calls Tryz.prog 99 #[.int .i64 z, .pointer (some ⟨g, 0, none⟩)] w (Same w (.bool (outB most z))) := by
  by_cases h : z < 0
  · rw [show outB most z = true from by simp [outB, h]]
    go_enter Tryz.func99, Tryz.ntmps99
    go_wp2
    go_ret
    exact ⟨rfl, rfl⟩
  · rw [show outB most z = decide (most < z) from by simp [outB, h]]
    go_enter Tryz.func99, Tryz.ntmps99
    go_wp2
    go_ret
    exact ⟨rfl, rfl⟩

theorem outside_any (v : Value) (zs : List Int) (most : Int) (w : World) (h : IsInts w v zs) : Calls Tryz.prog 78 #[v, .int .i64 most] w (Gives w (.bool (zs.any (outB most)))) := by
  obtain ⟨A, c, rfl, hc, hm, hr⟩ := h
  have g0 : Grow w (w.alloc (.cells #[.int .i64 most] 3)) := (Grow.refl _).alloc _
  have hcont := contains_out A c zs (.pointer (some ⟨w.heap.size, 0, none⟩)) (outB most) (w.alloc (.cells #[.int .i64 most] 3)) hc hm (hr.grow g0) (fun z _ => outside1_any z most w.heap.size _ (by simp))
  have HC := hid hcont
  clear hcont
  generalize zs.any (outB most) = b at *
  go_enter Tryz.func78, Tryz.ntmps78
  go_wp2_with (go_at_call 98; refine HC.out.mono ?_; rintro e w1 ⟨rfl, rfl⟩)
  go_ret
  exact ⟨rfl, g0⟩

theorem unseen_any (v : Value) (u : List Int) (w : World) (h : IsInts w v u) : Calls Tryz.prog 52 #[v] w (Gives w (.int .i64 (unErr u))) := by
  obtain ⟨A, c, rfl, _⟩ := id h
  have ho := outside_any _ u 4 w h
  have hfin : ∀ n w', unErr u = n → Grow w w' → Gives w (.int .i64 (unErr u)) (.returned (.int .i64 n)) w' := fun n w' hn hg => ⟨by rw [hn], hg⟩
  have HF := hid hfin
  have HO := hid ho
  clear hfin ho
  by_cases h1 : u.length = 0
  · have e := hid (show unErr u = 6 from by unfold unErr; rw [if_pos h1])
    have h1' : u.length ≤ 0 := by omega
    have hq : ((u.length : Int) == 0) = true := by simp [h1]
    have hq' : (u.length == 0) = true := by simp [h1]
    clear h1
    go_enter Tryz.func52, Tryz.ntmps52
    go_wp2
    go_ret
    exact HF.out _ _ e.out (Grow.refl _)
  · have hq : ((u.length : Int) == 0) = false := beq_eq_false_iff_ne.2 (by omega)
    have hq' : (u.length == 0) = false := beq_eq_false_iff_ne.2 (by omega)
    by_cases h2 : 34 < u.length
    · have e := hid (show unErr u = 8 from by unfold unErr; rw [if_neg h1, if_pos h2])
      clear h1
      go_enter Tryz.func52, Tryz.ntmps52
      go_wp2
      go_ret
      exact HF.out _ _ e.out (Grow.refl _)
    · by_cases h3 : u.any (outB 4) = true
      · have e := hid (show unErr u = 2 from by unfold unErr; rw [if_neg h1, if_neg h2, if_pos h3])
        rw [h3] at HO
        clear h1 h3
        go_enter Tryz.func52, Tryz.ntmps52
        go_wp2_with (go_at_call 78; refine HO.out.mono ?_; rintro e w1 ⟨rfl, hg1⟩)
        go_ret
        exact HF.out _ _ e.out hg1
      · have e := hid (show unErr u = 0 from by unfold unErr; rw [if_neg h1, if_neg h2, if_neg h3])
        rw [show u.any (outB 4) = false from by simpa using h3] at HO
        clear h1 h3
        go_enter Tryz.func52, Tryz.ntmps52
        go_wp2_with (go_at_call 78; refine HO.out.mono ?_; rintro e w1 ⟨rfl, hg1⟩)
        go_ret
        exact HF.out _ _ e.out hg1

theorem rising_any (v : Value) (zs : List Int) (many : Int) (w : World) (h : IsInts w v zs) : Calls Tryz.prog 53 #[v, .int .i64 many] w (Same w (.int .i64 (risErr many (-1) zs))) := by
  obtain ⟨A, c, rfl, hc, hm, hr⟩ := h
  unfold maxLen at hm
  have hfin : ∀ n, risErr many (-1) zs = n → Same w (.int .i64 (risErr many (-1) zs)) (.returned (.int .i64 n)) w := fun n hn => ⟨by rw [hn], rfl⟩
  have HF := hid hfin
  clear hfin
  go_enter Tryz.func53, Tryz.ntmps53
  go_wp2
  go_loop [9] (fun i => ∃ k : Nat, k ≤ zs.length ∧ i = .int .i64 (k : Int) ∧ risErr many (-1) zs = risErr many (prevI zs k) (zs.drop k)) (fun i => zs.length - (intOf i).toNat)
  case atStart => exact ⟨0, Nat.zero_le _, rfl, by rw [prevI_zero]; rfl⟩
  case round =>
    obtain ⟨k, hk, rfl, hz⟩ := hrel
    have HZ := hid hz
    clear hz
    by_cases hlt : k < zs.length
    · obtain ⟨ad, rfl, hb, hx⟩ := hr.int hlt
      have hst := HZ.out
      rw [risErr_drop hlt] at hst
      by_cases e1 : zs[k] < 0
      · rw [if_pos (.inl e1)] at hst
        have HS := hid hst
        clear hst
        go_wp2
        go_ret
        exact HF.out _ HS.out
      · by_cases e2 : many ≤ zs[k]
        · rw [if_pos (.inr e2)] at hst
          have HS := hid hst
          clear hst
          go_wp2
          go_ret
          exact HF.out _ HS.out
        · rw [if_neg (by omega)] at hst
          by_cases h0 : 0 < k
          · have hpl : k - 1 < zs.length := by omega
            have hp : prevI zs k = zs[k - 1] := by unfold prevI; rw [dif_pos ⟨h0, hpl⟩]
            obtain ⟨ad', hh, _, hx'⟩ := hr.int hpl
            obtain rfl := Option.some.inj hh
            by_cases e3 : zs[k] ≤ zs[k - 1]
            · rw [hp, if_pos e3] at hst
              have HS := hid hst
              clear hst hp hh
              go_wp2
              go_ret
              exact HF.out _ HS.out
            · rw [hp, if_neg e3] at hst
              have HS := hid hst
              clear hst hp hh
              go_wp2
              exact ⟨⟨k + 1, by omega, by go_num, by rw [prevI_succ hlt]; exact HS.out⟩, by simp only [intOf]; omega⟩
          · have hk0 : k ≤ 0 := by omega
            have hp : prevI zs k = -1 := by unfold prevI; rw [dif_neg (by omega)]
            rw [hp, if_neg (by omega)] at hst
            have HS := hid hst
            clear hst hp
            go_wp2
            exact ⟨⟨k + 1, by omega, by go_num, by rw [prevI_succ hlt]; exact HS.out⟩, by simp only [intOf]; omega⟩
    · have e : risErr many (-1) zs = 0 := by rw [HZ.out, List.drop_eq_nil_of_le (by omega)]; rfl
      have HE := hid e
      clear e
      go_wp2
      go_ret
      exact HF.out _ HE.out
end Go.Proofs.YtomgilkchlediaaGreatDoor
