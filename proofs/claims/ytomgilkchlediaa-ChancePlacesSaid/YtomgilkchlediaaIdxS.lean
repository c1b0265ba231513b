/-
  Walks of slices.IndexFunc and slices.ContainsFunc at the closures of swings and Ranks.
-/
import Derived.Test.YtomgilkchlediaaIdx
namespace Go.Proofs.Ytomgilkchlediaa
open Go.RowKit

theorem index_swings (A : Option Addr) (c : Nat) (zs : List Int) (p : Int → Bool) (w : World) (hc : zs.length ≤ c) (hm : c ≤ maxLen) (hr : Rd w A (ints zs))
    (hF : ∀ z ∈ zs, Calls Try.prog 44 #[.int .i64 z] w (Same w (.bool (p z)))) :
    Calls Try.prog 43 #[.slice A zs.length c, .func (.func 44) #[] #[]] w (Same w (.int .i64 (idxI p zs))) := by
  unfold maxLen at hm
  have HF := hid hF
  clear hF
  go_enter Try.func43, Try.ntmps43
  go_wp2
  go_loop [8] (fun i => ∃ k, k ≤ zs.length ∧ i = .int .i64 k ∧ ∀ j, (h : j < zs.length) → j < k → p zs[j] = false) (fun i => zs.length - (intOf i).toNat)
  case atStart => exact ⟨0, Nat.zero_le _, rfl, by simp⟩
  case round =>
    obtain ⟨k, hk, rfl, hz⟩ := hrel
    have HZ := hid hz
    clear hz
    by_cases hlt : k < zs.length
    · obtain ⟨ad, rfl, hb, hx⟩ := hr.int hlt
      have hcall := HF.out zs[k] (List.getElem_mem hlt)
      by_cases hp : p zs[k] = true
      · rw [hp] at hcall
        have HC := hid hcall
        have HP := hid hp
        clear hp hcall
        go_wp2_with (go_at_call 44; refine HC.out.mono ?_; rintro e w' ⟨rfl, rfl⟩)
        go_ret
        exact ⟨by rw [idxI_some hlt HP.out HZ.out]; rfl, rfl⟩
      · have hp' : p zs[k] = false := by simpa using hp
        rw [hp'] at hcall
        have HC := hid hcall
        have HP := hid hp'
        clear hp hp' hcall
        go_wp2_with (go_at_call 44; refine HC.out.mono ?_; rintro e w' ⟨rfl, rfl⟩)
        refine ⟨⟨k + 1, by omega, by go_num, fun j h hj => ?_⟩, by simp [intOf]; omega⟩
        by_cases e : j = k
        · subst e; exact HP.out
        · exact HZ.out j h (by omega)
    · go_wp2
      go_ret
      exact ⟨by rw [idxI_none fun j h => HZ.out j h (by omega)]; rfl, rfl⟩

theorem contains_swings (A : Option Addr) (c : Nat) (zs : List Int) (p : Int → Bool) (w : World) (hc : zs.length ≤ c) (hm : c ≤ maxLen) (hr : Rd w A (ints zs))
    (hF : ∀ z ∈ zs, Calls Try.prog 44 #[.int .i64 z] w (Same w (.bool (p z)))) :
    Calls Try.prog 22 #[.slice A zs.length c, .func (.func 44) #[] #[]] w (Same w (.bool (zs.any p))) := by
  have h := index_swings A c zs p w hc hm hr hF
  have H := hid h
  clear h hF
  have hb : decide (0 ≤ idxI p zs) = zs.any p := idxI_any p zs
  generalize idxI p zs = i at *
  generalize zs.any p = b at *
  go_enter Try.func22, Try.ntmps22
  go_wp2_with (go_at_call 43; refine H.out.mono ?_; rintro e w' ⟨rfl, rfl⟩)
  go_ret
  exact ⟨rfl, rfl⟩

theorem index_ranks (A : Option Addr) (c : Nat) (zs : List Int) (p : Int → Bool) (w : World) (hc : zs.length ≤ c) (hm : c ≤ maxLen) (hr : Rd w A (ints zs))
    (hF : ∀ z ∈ zs, Calls Try.prog 23 #[.int .i64 z] w (Same w (.bool (p z)))) :
    Calls Try.prog 43 #[.slice A zs.length c, .func (.func 23) #[] #[]] w (Same w (.int .i64 (idxI p zs))) := by
  unfold maxLen at hm
  have HF := hid hF
  clear hF
  go_enter Try.func43, Try.ntmps43
  go_wp2
  go_loop [8] (fun i => ∃ k, k ≤ zs.length ∧ i = .int .i64 k ∧ ∀ j, (h : j < zs.length) → j < k → p zs[j] = false) (fun i => zs.length - (intOf i).toNat)
  case atStart => exact ⟨0, Nat.zero_le _, rfl, by simp⟩
  case round =>
    obtain ⟨k, hk, rfl, hz⟩ := hrel
    have HZ := hid hz
    clear hz
    by_cases hlt : k < zs.length
    · obtain ⟨ad, rfl, hb, hx⟩ := hr.int hlt
      have hcall := HF.out zs[k] (List.getElem_mem hlt)
      by_cases hp : p zs[k] = true
      · rw [hp] at hcall
        have HC := hid hcall
        have HP := hid hp
        clear hp hcall
        go_wp2_with (go_at_call 23; refine HC.out.mono ?_; rintro e w' ⟨rfl, rfl⟩)
        go_ret
        exact ⟨by rw [idxI_some hlt HP.out HZ.out]; rfl, rfl⟩
      · have hp' : p zs[k] = false := by simpa using hp
        rw [hp'] at hcall
        have HC := hid hcall
        have HP := hid hp'
        clear hp hp' hcall
        go_wp2_with (go_at_call 23; refine HC.out.mono ?_; rintro e w' ⟨rfl, rfl⟩)
        refine ⟨⟨k + 1, by omega, by go_num, fun j h hj => ?_⟩, by simp [intOf]; omega⟩
        by_cases e : j = k
        · subst e; exact HP.out
        · exact HZ.out j h (by omega)
    · go_wp2
      go_ret
      exact ⟨by rw [idxI_none fun j h => HZ.out j h (by omega)]; rfl, rfl⟩

theorem contains_ranks (A : Option Addr) (c : Nat) (zs : List Int) (p : Int → Bool) (w : World) (hc : zs.length ≤ c) (hm : c ≤ maxLen) (hr : Rd w A (ints zs))
    (hF : ∀ z ∈ zs, Calls Try.prog 23 #[.int .i64 z] w (Same w (.bool (p z)))) :
    Calls Try.prog 22 #[.slice A zs.length c, .func (.func 23) #[] #[]] w (Same w (.bool (zs.any p))) := by
  have h := index_ranks A c zs p w hc hm hr hF
  have H := hid h
  clear h hF
  have hb : decide (0 ≤ idxI p zs) = zs.any p := idxI_any p zs
  generalize idxI p zs = i at *
  generalize zs.any p = b at *
  go_enter Try.func22, Try.ntmps22
  go_wp2_with (go_at_call 43; refine H.out.mono ?_; rintro e w' ⟨rfl, rfl⟩)
  go_ret
  exact ⟨rfl, rfl⟩

end Go.Proofs.Ytomgilkchlediaa
