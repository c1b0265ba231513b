/-
  Walks of the reference's digits and Text.
-/
import Derived.Test.YtomgilkchlediaaGreatDoorTextZ
import Derived.Test.YtomgilkchlediaaGreatDoorRefC
namespace Go.Proofs.YtomgilkchlediaaGreatDoor
open Go.RowKit

theorem ten_at {d : Nat} (h : d < 10) : (⟨#[48, 49, 50, 51, 52, 53, 54, 55, 56, 57]⟩ : ByteArray).extract d (d + 1) = strB [UInt8.ofNat (48 + d)] := by
  have key : ∀ d : Fin 10, (⟨#[48, 49, 50, 51, 52, 53, 54, 55, 56, 57]⟩ : ByteArray).extract d.val (d.val + 1) = strB [UInt8.ofNat (48 + d.val)] := by
    intro d
    apply ByteArray.ext
    revert d
    decide +kernel
  exact key ⟨d, h⟩
theorem dgs_len {n least : Nat} (hn : n < 1000000000) (hl : least ≤ 9) : (dgs n least).length ≤ 9 := by
  rw [(dgs_all _ n least (Nat.le_refl _)).2.2]
  have := nDigits_le hn
  split <;> omega
set_option maxRecDepth 100000 in
theorem digits_any (n least : Nat) (w : World) (hn : n < 1000000000) (hl : least ≤ 9) :
    Calls Tryz.prog 40 #[.int .i64 (n : Int), .int .i64 (least : Int)] w (Says w (.string (strB (dgs n least)))) := by
  have hlen := dgs_len hn hl
  have H0 := hid (show dgs n least = dgs n (least : Int).toNat ++ [] by simp)
  generalize dgs n least = D at *
  go_enter Tryz.func40, Tryz.ntmps40
  go_wp2
  go_loopw [0, 1, 5] (fun a b c wr => ∃ (m : Nat) (l : Int) (out : List UInt8), a = .int .i64 (m : Int) ∧ b = .int .i64 l ∧ c = .string (strB out) ∧ D = dgs m l.toNat ++ out ∧ m < 1000000000 ∧ l ≤ 9 ∧ (-1000000000 : Int) ≤ l - m ∧ ∃ k, wr = w.drewN k) (fun a b _ _ => (intOf a).toNat + (intOf b).toNat)
  case atStart => exact ⟨n, least, [], rfl, rfl, rfl, H0.out, hn, by omega, by omega, 0, rfl⟩
  case round =>
    obtain ⟨m, l, out, rfl, rfl, rfl, hD, hm, hl9, hlo, k, rfl⟩ := hrel
    have hol : out.length ≤ 9 := by
      have := congrArg List.length hD
      rw [List.length_append] at this
      omega
    by_cases hgo : 0 < m ∨ 0 < l
    · have hs : dgs m l.toNat = dgs (m / 10) (l.toNat - 1) ++ [UInt8.ofNat (48 + m % 10)] := dgs_step (by omega)
      obtain ⟨d, hd⟩ : ∃ d, m % 10 = d := ⟨_, rfl⟩
      obtain ⟨q, hq⟩ : ∃ q, m / 10 = q := ⟨_, rfl⟩
      have hd10 : d < 10 := by omega
      have r1 : (m : Int) % 10 = (d : Int) := by omega
      have r2 : (m : Int) / 10 = (q : Int) := by omega
      have et := ten_at hd10
      have hadd := add_strB [UInt8.ofNat (48 + d)] out (by simp; omega)
      rw [hs, hd, hq] at hD
      obtain ⟨b, hb⟩ : ∃ b, UInt8.ofNat (48 + d) = b := ⟨_, rfl⟩
      rw [hb] at hD et hadd
      have hq2 : q < 1000000000 ∧ (0 < m → q < m) ∧ (-1000000000 : Int) ≤ l - 1 - q ∧ (l - 1).toNat = l.toNat - 1 := by omega
      have HD := hid hD
      have HQ := hid hq2
      clear hD hs hq2
      by_cases hm0 : (0 : Int) < (m : Int)
      · go_wp2
        exact ⟨⟨q, l - 1, b :: out, rfl, rfl, rfl, by rw [HQ.out.2.2.2, HD.out]; simp, HQ.out.1, by omega, HQ.out.2.2.1, k, rfl⟩, by simp only [intOf]; have := HQ.out.2.1; omega⟩
      · have hl0 : 0 < l := by omega
        obtain rfl : m = 0 := by omega
        obtain rfl : q = 0 := by omega
        obtain rfl : d = 0 := by omega
        have et' : (⟨#[48, 49, 50, 51, 52, 53, 54, 55, 56, 57]⟩ : ByteArray).extract 0 1 = strB [b] := et
        go_wp2
        exact ⟨⟨0, l - 1, b :: out, rfl, rfl, rfl, by rw [HQ.out.2.2.2, HD.out]; simp, HQ.out.1, by omega, HQ.out.2.2.1, k, rfl⟩, by simp only [intOf]; omega⟩
    · have hm0 : ¬ (0 : Int) < (m : Int) := by omega
      have hl0 : ¬ 0 < l := by omega
      have ho : D = out := by
        rw [hD, show m = 0 by omega, show l.toNat = 0 by omega, dgs_zero]; rfl
      subst ho
      clear hD
      go_wp2
      go_ret
      exact ⟨rfl, k, rfl⟩
theorem digits_at (z l : Int) (n least : Nat) (w : World) (hz : z = (n : Int)) (hl : l = (least : Int)) (hn : n < 1000000000) (hle : least ≤ 9) :
    Calls Tryz.prog 40 #[.int .i64 z, .int .i64 l] w (Says w (.string (strB (dgs n least)))) := by
  subst hz
  subst hl
  exact digits_any n least w hn hle

set_option maxRecDepth 100000 in
theorem rText_any (v : Value) (zs : List Int) (w : World) (h : IsInts w v zs) : Calls Tryz.prog 12 #[v] w (TextRes w zs) := by
  have k1 := rCheckNat_any v zs w h
  obtain ⟨A, c, rfl, hc, hm, hr⟩ := id h
  unfold maxLen at hm
  by_cases e0 : natErr zs = 0
  · have HF := hid (fun W (hg : Grow w W) => (show TextRes w zs (.returned (.tuple #[.string (strB (textL zs)), .int .i64 0])) W from ⟨by rw [if_pos e0, e0], hg⟩))
    have hok := natErr_ok e0
    have hlen : zs.length ≤ 40 := by have := hok.2; omega
    rw [e0] at k1
    have HD := hid hok.1.1
    clear e0 hok
    by_cases hz : zs.length = 0
    · obtain rfl : zs = [] := List.eq_nil_of_length_eq_zero hz
      simp only [List.length_nil] at k1 ⊢
      have K1 := hid k1
      have H1 := hid (HF.out w (Grow.refl _))
      clear k1 HF hz hr h HD
      go_enter Tryz.func12, Tryz.ntmps12
      go_wp2_with fail
      refine K1.out.mono ?_
      rintro e w' ⟨rfl, rfl⟩
      go_wp2
      go_ret2
      exact H1.out
    · have hT : textL zs = txtL (zs.drop 0) := by
        unfold textL
        rw [if_neg (fun e => hz (by rw [e]; rfl))]
        rfl
      rw [hT] at HF
      clear hT
      obtain ⟨n, hn⟩ : ∃ n, zs.length = n + 1 := ⟨zs.length - 1, by omega⟩
      rw [hn] at k1
      have K1 := hid k1
      clear k1
      have DG := fun (k : Nat) (hk : k < zs.length) => HD.out zs[k] (List.getElem_mem hk)
      have hlast := DG n (by omega)
      obtain ⟨u, hu⟩ := Int.eq_ofNat_of_zero_le hlast.1
      have T0 : txtL (zs.drop n) = dgs u 1 := by
        rw [txt_drop (zs := zs) (k := n) (by omega), if_neg (by omega), List.drop_eq_nil_of_le (i := n + 1) (by omega), txtL, List.nil_append, hu, itoa_nat, ← dgs_one]
      have D1 := hid (digits_at u 1 u 1 w rfl rfl (by omega) (by decide))
      have HT0 := hid T0
      have HDG := hid DG
      obtain ⟨ad, rfl, hb, hx⟩ := hr.int (k := n) (by omega)
      rw [hu] at hx
      have hb2 : (n : Int) < (zs.length : Int) := by omega
      have it : ((zs.length : Int) - 1).toNat = n := by omega
      have it' : ((zs.length : Int) - 1) = (n : Int) := by omega
      clear T0 DG hlast hu
      go_enter Tryz.func12, Tryz.ntmps12
      go_wp2_with fail
      refine K1.out.mono ?_
      rintro e w' ⟨rfl, rfl⟩
      go_wp2_with fail
      refine D1.out.mono ?_
      rintro e w1 ⟨rfl, m1, rfl⟩
      rw [← HT0.out]
      clear D1
      go_wp2
      go_loopw [5, 6] (fun o i wr => ∃ k, k ≤ n ∧ i = .int .i64 ((k : Int) - 1) ∧ o = .string (strB (txtL (zs.drop k))) ∧ ∃ m, wr = w.drewN m) (fun _ i _ => (intOf i + 1).toNat)
      case atStart => exact ⟨n, Nat.le_refl _, by congr 1; omega, rfl, m1, rfl⟩
      case round =>
        obtain ⟨k, hk, rfl, rfl, m, rfl⟩ := hrel
        have htl : (txtL (zs.drop k)).length ≤ 9 * (zs.length - k) := by
          have := txt_len (zs := zs.drop k) (fun d hd => HD.out d (List.mem_of_mem_drop hd))
          rwa [List.length_drop] at this
        by_cases h0 : 0 < k
        · obtain ⟨j, rfl⟩ : ∃ j, k = j + 1 := ⟨k - 1, by omega⟩
          have hj := HDG.out j (by omega)
          obtain ⟨u2, hu2⟩ := Int.eq_ofNat_of_zero_le hj.1
          have T1 : txtL (zs.drop j) = txtL (zs.drop (j + 1)) ++ dgs u2 9 := by
            rw [txt_drop (zs := zs) (k := j) (by omega), if_pos (by omega), hu2, dgs_nine (by omega)]
          have D9 := hid (fun m => digits_at u2 9 u2 9 (w.drewN m) rfl rfl (by omega) (by decide))
          obtain ⟨ad2, e2, hb2, hx2⟩ := hr.int (k := j) (by omega)
          obtain rfl := Option.some.inj e2
          rw [hu2] at hx2
          have hadd := add_strB (txtL (zs.drop (j + 1))) (dgs u2 9) (by rw [(dgs_all _ u2 9 (Nat.le_refl _)).2.2]; have := nDigits_le (u := u2) (by omega); split <;> omega)
          rw [← T1] at hadd
          have i0 : (0 : Int) ≤ (j : Int) + 1 - 1 := by omega
          have i1 : (j : Int) + 1 - 1 < (zs.length : Int) := by omega
          have it2 : ((j : Int) + 1 - 1).toNat = j := by omega
          have it3 : ((j : Int) + 1 - 1) = (j : Int) := by omega
          have T2 := hid T1
          clear T1 hj hu2 htl
          go_wp2_with fail
          refine (D9.out m).mono ?_
          rintro e w3 ⟨rfl, m3, rfl⟩
          go_wp2
          exact ⟨⟨j, by omega, rfl, rfl, m + m3, rfl⟩, by simp only [intOf]; omega⟩
        · obtain rfl : k = 0 := by omega
          go_wp2
          go_ret2
          exact HF.out _ ((Grow.refl _).drewN _)
  · have HF := hid (show TextRes w zs (.returned (.tuple #[.string ⟨#[]⟩, .int .i64 (natErr zs)])) w from ⟨by rw [if_neg e0]; rfl, Grow.refl _⟩)
    have hne : (natErr zs != 0) = true := by simp [e0]
    have K1 := hid k1
    clear k1 e0
    generalize natErr zs = n1 at *
    go_enter Tryz.func12, Tryz.ntmps12
    go_wp2_with fail
    refine K1.out.mono ?_
    rintro e w' ⟨rfl, rfl⟩
    go_wp2
    go_ret2
    exact HF.out
end Go.Proofs.YtomgilkchlediaaGreatDoor
