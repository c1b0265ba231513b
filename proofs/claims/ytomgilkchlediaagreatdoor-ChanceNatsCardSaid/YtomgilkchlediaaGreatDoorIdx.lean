/-
  Walks of slices.IndexFunc and slices.ContainsFunc at the closures that call them.
-/
import Derived.Test.YtomgilkchlediaaGreatDoorNatA
namespace Go.Proofs.YtomgilkchlediaaGreatDoor
open Go.RowKit

/-- Where the first number is for which p holds; -1 if there is none. -/
def idxI (p : Int → Bool) (zs : List Int) : Int := if zs.any p then (zs.findIdx p : Int) else -1
theorem idxI_some {p : Int → Bool} {zs : List Int} {k : Nat} (hk : k < zs.length) (h : p zs[k] = true) (hb : ∀ j, (h : j < zs.length) → j < k → p zs[j] = false) : idxI p zs = k := by
  unfold idxI
  rw [if_pos (List.any_eq_true.2 ⟨zs[k], List.getElem_mem hk, h⟩)]
  have e : zs.findIdx p = k := (List.findIdx_eq hk).2 ⟨h, fun j hj => by simpa using hb j (by omega) hj⟩
  rw [e]
theorem idxI_none {p : Int → Bool} {zs : List Int} (hb : ∀ j, (h : j < zs.length) → p zs[j] = false) : idxI p zs = -1 := by
  unfold idxI
  rw [if_neg]
  intro h
  obtain ⟨z, hz, hp⟩ := List.any_eq_true.1 h
  obtain ⟨j, hj, rfl⟩ := List.getElem_of_mem hz
  rw [hb j hj] at hp
  cases hp
theorem idxI_any (p : Int → Bool) (zs : List Int) : decide (0 ≤ idxI p zs) = zs.any p := by
  unfold idxI
  by_cases h : zs.any p = true
  · rw [if_pos h, h]; simp
  · rw [if_neg h]; simp at h; simpa using h

theorem index_nat (A : Option Addr) (c : Nat) (zs : List Int) (p : Int → Bool) (w : World) (hc : zs.length ≤ c) (hm : c ≤ maxLen) (hr : Rd w A (ints zs))
    (hF : ∀ z ∈ zs, Calls Tryz.prog 42 #[.int .i64 z] w (Same w (.bool (p z)))) :
    Calls Tryz.prog 73 #[.slice A zs.length c, .func (.func 42) #[] #[]] w (Same w (.int .i64 (idxI p zs))) := by
  unfold maxLen at hm
  have HF := hid hF
  clear hF
  go_enter Tryz.func73, Tryz.ntmps73
  go_wp2
  go_loop [8] (fun i => ∃ k, k ≤ zs.length ∧ i = .int .i64 k ∧ ∀ j, (h : j < zs.length) → j < k → p zs[j] = false) (fun i => zs.length - (intOf i).toNat)
  case atStart => exact ⟨0, Nat.zero_le _, rfl, by simp⟩
  case round =>
    obtain ⟨k, hk, rfl, hz⟩ := hrel
    have HZ := hid hz
    clear hz
    by_cases hlt : k < zs.length
    · obtain ⟨ad, rfl, hb, hx⟩ := hr.int hlt
      have hcall := HF.out zs[k] (List.getElem_mem hlt)
      by_cases hp : p zs[k] = true
      · rw [hp] at hcall
        have HC := hid hcall
        have HP := hid hp
        clear hp hcall
        go_wp2_with (go_at_call 42; refine HC.out.mono ?_; rintro e w' ⟨rfl, rfl⟩)
        go_ret
        exact ⟨by rw [idxI_some hlt HP.out HZ.out]; rfl, rfl⟩
      · have hp' : p zs[k] = false := by simpa using hp
        rw [hp'] at hcall
        have HC := hid hcall
        have HP := hid hp'
        clear hp hp' hcall
        go_wp2_with (go_at_call 42; refine HC.out.mono ?_; rintro e w' ⟨rfl, rfl⟩)
        refine ⟨⟨k + 1, by omega, by go_num, fun j h hj => ?_⟩, by simp [intOf] <;> omega⟩
        by_cases e : j = k
        · subst e; exact HP.out
        · exact HZ.out j h (by omega)
    · go_wp2
      go_ret
      exact ⟨by rw [idxI_none fun j h => HZ.out j h (by omega)]; rfl, rfl⟩

theorem contains_nat (A : Option Addr) (c : Nat) (zs : List Int) (p : Int → Bool) (w : World) (hc : zs.length ≤ c) (hm : c ≤ maxLen) (hr : Rd w A (ints zs))
    (hF : ∀ z ∈ zs, Calls Tryz.prog 42 #[.int .i64 z] w (Same w (.bool (p z)))) :
    Calls Tryz.prog 41 #[.slice A zs.length c, .func (.func 42) #[] #[]] w (Same w (.bool (zs.any p))) := by
  have h := index_nat A c zs p w hc hm hr hF
  have H := hid h
  clear h hF
  have hb : decide (0 ≤ idxI p zs) = zs.any p := idxI_any p zs
  generalize idxI p zs = i at *
  generalize zs.any p = b at *
  go_enter Tryz.func41, Tryz.ntmps41
  go_wp2_with (go_at_call 73; refine H.out.mono ?_; rintro e w' ⟨rfl, rfl⟩)
  go_ret
  exact ⟨rfl, rfl⟩

theorem index_out (A : Option Addr) (c : Nat) (zs : List Int) (x : Value) (p : Int → Bool) (w : World) (hc : zs.length ≤ c) (hm : c ≤ maxLen) (hr : Rd w A (ints zs))
    (hF : ∀ z ∈ zs, Calls Tryz.prog 99 #[.int .i64 z, x] w (Same w (.bool (p z)))) :
    Calls Tryz.prog 112 #[.slice A zs.length c, .func (.func 99) #[] #[x]] w (Same w (.int .i64 (idxI p zs))) := by
  unfold maxLen at hm
  have HF := hid hF
  clear hF
  go_enter Tryz.func112, Tryz.ntmps112
  go_wp2
  go_loop [8] (fun i => ∃ k, k ≤ zs.length ∧ i = .int .i64 k ∧ ∀ j, (h : j < zs.length) → j < k → p zs[j] = false) (fun i => zs.length - (intOf i).toNat)
  case atStart => exact ⟨0, Nat.zero_le _, rfl, by simp⟩
  case round =>
    obtain ⟨k, hk, rfl, hz⟩ := hrel
    have HZ := hid hz
    clear hz
    by_cases hlt : k < zs.length
    · obtain ⟨ad, rfl, hb, hx⟩ := hr.int hlt
      have hcall := HF.out zs[k] (List.getElem_mem hlt)
      by_cases hp : p zs[k] = true
      · rw [hp] at hcall
        have HC := hid hcall
        have HP := hid hp
        clear hp hcall
        go_wp2_with (go_at_call 99; refine HC.out.mono ?_; rintro e w' ⟨rfl, rfl⟩)
        go_ret
        exact ⟨by rw [idxI_some hlt HP.out HZ.out]; rfl, rfl⟩
      · have hp' : p zs[k] = false := by simpa using hp
        rw [hp'] at hcall
        have HC := hid hcall
        have HP := hid hp'
        clear hp hp' hcall
        go_wp2_with (go_at_call 99; refine HC.out.mono ?_; rintro e w' ⟨rfl, rfl⟩)
        refine ⟨⟨k + 1, by omega, by go_num, fun j h hj => ?_⟩, by simp [intOf] <;> omega⟩
        by_cases e : j = k
        · subst e; exact HP.out
        · exact HZ.out j h (by omega)
    · go_wp2
      go_ret
      exact ⟨by rw [idxI_none fun j h => HZ.out j h (by omega)]; rfl, rfl⟩

theorem contains_out (A : Option Addr) (c : Nat) (zs : List Int) (x : Value) (p : Int → Bool) (w : World) (hc : zs.length ≤ c) (hm : c ≤ maxLen) (hr : Rd w A (ints zs))
    (hF : ∀ z ∈ zs, Calls Tryz.prog 99 #[.int .i64 z, x] w (Same w (.bool (p z)))) :
    Calls Tryz.prog 98 #[.slice A zs.length c, .func (.func 99) #[] #[x]] w (Same w (.bool (zs.any p))) := by
  have h := index_out A c zs x p w hc hm hr hF
  have H := hid h
  clear h hF
  have hb : decide (0 ≤ idxI p zs) = zs.any p := idxI_any p zs
  generalize idxI p zs = i at *
  generalize zs.any p = b at *
  go_enter Tryz.func98, Tryz.ntmps98
  go_wp2_with (go_at_call 112; refine H.out.mono ?_; rintro e w' ⟨rfl, rfl⟩)
  go_ret
  exact ⟨rfl, rfl⟩
end Go.Proofs.YtomgilkchlediaaGreatDoor
