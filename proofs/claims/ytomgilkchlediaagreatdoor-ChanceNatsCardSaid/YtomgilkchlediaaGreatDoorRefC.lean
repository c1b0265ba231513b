/-
  Walks of the reference: CheckNat, Binomial, which odds are better.
-/
import Derived.Test.YtomgilkchlediaaGreatDoorTri
import Derived.Test.YtomgilkchlediaaGreatDoorRefL
import Derived.Test.YtomgilkchlediaaGreatDoorNatG
namespace Go.Proofs.YtomgilkchlediaaGreatDoor
open Go.RowKit

theorem rCheckNat_any (v : Value) (zs : List Int) (w : World) (h : IsInts w v zs) : Calls Tryz.prog 14 #[v] w (Same w (.int .i64 (natErr zs))) := by
  obtain ⟨A, c, rfl, hc, hm, hr⟩ := h
  unfold maxLen at hm
  have hfin : ∀ n, natErr zs = n → Same w (.int .i64 (natErr zs)) (.returned (.int .i64 n)) w := fun n hn => ⟨by rw [hn], rfl⟩
  have HF := hid hfin
  clear hfin
  generalize hE : natErr zs = E at *
  have HE := hid hE
  clear hE
  by_cases h1 : 40 < zs.length
  · have e : E = 5 := by rw [← HE.out]; unfold natErr; rw [if_pos h1]
    have HH := hid e
    clear e
    go_enter Tryz.func14, Tryz.ntmps14
    go_wp2
    go_ret
    exact HF.out 5 HH.out
  · have h40 : zs.length ≤ 40 := by omega
    go_enter Tryz.func14, Tryz.ntmps14
    go_wp2
    go_loop [3] (fun i => ∃ k : Nat, k ≤ zs.length ∧ i = .int .i64 k ∧ ∀ j, (h : j < zs.length) → j < k → digB zs[j] = false) (fun i => zs.length - (intOf i).toNat)
    case atStart => exact ⟨0, Nat.zero_le _, rfl, by simp⟩
    case round =>
      obtain ⟨k, hk, rfl, hz⟩ := hrel
      have HZ := hid hz
      clear hz
      by_cases hlt : k < zs.length
      · obtain ⟨ad, rfl, hb, hx⟩ := hr.int hlt
        by_cases hd : digB zs[k] = true
        · have e : E = 2 := by rw [← HE.out]; unfold natErr; rw [if_neg h1, if_pos (List.any_eq_true.2 ⟨_, List.getElem_mem hlt, hd⟩)]
          have HH := hid e
          clear e
          unfold digB at hd
          simp at hd
          by_cases hn : zs[k] < 0
          · clear hd
            go_wp2
            go_ret
            exact HF.out 2 HH.out
          · have hd' : 1000000000 ≤ zs[k] := by omega
            clear hd
            go_wp2
            go_ret
            exact HF.out 2 HH.out
        · have hd0 : digB zs[k] = false := by simpa using hd
          have HD := hid hd0
          unfold digB at hd
          simp at hd
          obtain ⟨d1, d2⟩ : 0 ≤ zs[k] ∧ zs[k] < 1000000000 := by omega
          clear hd hd0
          go_wp2
          refine ⟨⟨k + 1, by omega, by go_num, fun j h hj => ?_⟩, by simp only [intOf]; omega⟩
          by_cases e : j = k
          · subst e; exact HD.out
          · exact HZ.out j h (by omega)
      · have hany : zs.any digB = false := List.any_eq_false.2 fun x hx => by
          obtain ⟨j, hj, rfl⟩ := List.getElem_of_mem hx
          rw [HZ.out j hj (by omega)]
          simp
        by_cases h0 : 0 < zs.length
        · obtain ⟨ad, rfl, hb, hx⟩ := hr.int (k := zs.length - 1) (by omega)
          have e3 : zs.getLast? = some zs[zs.length - 1] := by rw [List.getLast?_eq_getElem?, List.getElem?_eq_getElem (by omega)]
          by_cases h3 : zs[zs.length - 1] = 0
          · have e : E = 3 := by rw [← HE.out]; unfold natErr; rw [if_neg h1, if_neg (by rw [hany]; simp), if_pos (by rw [e3, h3])]
            have he : (zs[zs.length - 1] == 0) = true := by simp [h3]
            have HH := hid e
            clear e h3 e3 hany
            go_wp2
            go_ret
            exact HF.out 3 HH.out
          · have e : E = 0 := by rw [← HE.out]; unfold natErr; rw [if_neg h1, if_neg (by rw [hany]; simp), if_neg (by rw [e3]; simpa using h3)]
            have he : (zs[zs.length - 1] == 0) = false := by simp [h3]
            have HH := hid e
            clear e h3 e3 hany
            go_wp2
            go_ret
            exact HF.out 0 HH.out
        · have hz : zs = [] := List.eq_nil_of_length_eq_zero (by omega)
          have e : E = 0 := by rw [← HE.out, hz]; exact natErr_canon Canon.nil (by simp)
          have HH := hid e
          clear e hz hany
          go_wp2
          go_ret
          exact HF.out 0 HH.out

end Go.Proofs.YtomgilkchlediaaGreatDoor
