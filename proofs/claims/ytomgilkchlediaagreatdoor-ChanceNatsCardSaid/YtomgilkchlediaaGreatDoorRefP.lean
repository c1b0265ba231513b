/-
  The walk of the reference's Parse.
-/
import Derived.Test.YtomgilkchlediaaGreatDoorParseZ
import Derived.Test.YtomgilkchlediaaGreatDoorRefB
namespace Go.Proofs.YtomgilkchlediaaGreatDoor
open Go.RowKit

theorem idx_at (l : List UInt8) (k : Nat) (hk : k < l.length) : ∀ W : World, (Instr.index 9 (.string (strB l)) (.int .i64 (k : Int))).run Tryz.prog W = .ok (.int .u8 (l[k].toNat : Int)) W := fun W => by
  have hs : (k : Int) < ((strB l).size : Int) := by rw [strB_size]; omega
  rw [run_index_string (P := Tryz.prog) W 9 (strB l) .i64 (k : Int) Tryz.underlying9, dif_pos ⟨by omega, hs⟩]
  rfl
theorem bad_at {l : List UInt8} {k : Nat} (hk : k < l.length) (h : l[k].toNat < 48 ∨ 57 < l[k].toNat) : parseErr l = 3 := by
  unfold parseErr
  rw [if_pos (.inr (.inr (List.any_eq_true.2 ⟨l[k], List.getElem_mem hk, by simpa using h⟩)))]
theorem vt_step {l : List UInt8} {k lo : Nat} (hk : k < l.length) (hlo : lo ≤ k) : vt ((l.take (k + 1)).drop lo) = 10 * vt ((l.take k).drop lo) + (l[k].toNat - 48) := by
  have e : (l.take (k + 1)).drop lo = (l.take k).drop lo ++ [l[k]] := by
    rw [List.take_add_one, List.getElem?_eq_getElem hk, List.drop_append_of_le_length (by rw [List.length_take]; omega)]
    rfl
  rw [e, vt_append]
  simp [vt, w10]
  omega
theorem vt_part_lt {l : List UInt8} (h : AllD l) (k lo : Nat) (hk : k ≤ l.length) : vt ((l.take k).drop lo) < 10 ^ (k - lo) := by
  have h1 : AllD ((l.take k).drop lo) := fun b hb => h b (List.mem_of_mem_take (List.mem_of_mem_drop hb))
  have h2 := vt_lt h1
  rwa [List.length_drop, List.length_take, Nat.min_eq_left hk] at h2
theorem chs_take {l : List UInt8} {e lo : Nat} (he : e ≤ l.length) (h0 : 0 < e) (hlo : lo = e - 9) : chs (l.take e) = (vt ((l.take e).drop lo) : Int) :: chs (l.take lo) := by
  have hl : (l.take e).length = e := by rw [List.length_take]; omega
  rw [chs_cons (l := l.take e) (by omega), hl, ← hlo, List.take_take, Nat.min_eq_left (by omega)]
set_option maxRecDepth 100000 in
set_option maxHeartbeats 4000000 in
theorem rParse_any (l : List UInt8) (w : World) (hl : l.length ≤ 1000000) : Calls Tryz.prog 21 #[.string (strB l)] w (ParseRes w l) := by
  have HBAD := hid (fun wf (he : parseErr l = 3) (hg : Grow w wf) => (show ParseRes w l (.returned (.tuple #[.slice none 0 0, .int .i64 3])) wf from ⟨none, 0, 0, by rw [he], hg, fun _ => ⟨rfl, rfl, rfl⟩, fun h => by rw [he] at h; exact absurd h (by decide)⟩))
  have HLONG := hid (fun wf (he : parseErr l = 5) (hg : Grow w wf) => (show ParseRes w l (.returned (.tuple #[.slice none 0 0, .int .i64 5])) wf from ⟨none, 0, 0, by rw [he], hg, fun _ => ⟨rfl, rfl, rfl⟩, fun h => by rw [he] at h; exact absurd h (by decide)⟩))
  obtain ⟨n, hsz⟩ : ∃ n, (strB l).size = n := ⟨_, rfl⟩
  have HN := hid (hsz.symm.trans (strB_size l))
  have IX := hid (fun k hk => idx_at l k hk)
  generalize hS : strB l = S at *
  clear hS
  have hn6 : n ≤ 1000000 := by have := HN.out; omega
  clear hl
  go_enter Tryz.func21, Tryz.ntmps21
  go_wp2
  go_loopw [4] (fun i wr => ∃ k, k ≤ n ∧ i = .int .i64 (k : Int) ∧ AllD (l.take k) ∧ ∃ m, wr = w.drewN m) (fun i _ => n - (intOf i).toNat)
  case atStart => exact ⟨0, Nat.zero_le _, rfl, fun b hb => by simp at hb, 0, rfl⟩
  case round =>
    obtain ⟨k, hk, rfl, hall, m, rfl⟩ := hrel
    have HA := hid hall
    clear hall
    by_cases hkn : k < n
    · have hkl : k < l.length := by have := HN.out; omega
      have ix := IX.out k hkl
      obtain ⟨z, hz⟩ : ∃ z : Nat, l[k].toNat = z := ⟨_, rfl⟩
      have HZ := hid hz
      rw [hz] at ix
      have hz256 : z < 256 := by rw [← hz]; exact UInt8.toNat_lt _
      have hki : (k : Int) < (n : Int) := by omega
      clear hz
      by_cases h1 : (z : Int) < 48
      · have HE := hid (bad_at hkl (by have := HZ.out; omega))
        go_wp2
        go_ret2
        exact HBAD.out _ HE.out ((Grow.refl _).drewN _)
      · by_cases h2 : (57 : Int) < (z : Int)
        · have HE := hid (bad_at hkl (by have := HZ.out; omega))
          go_wp2
          go_ret2
          exact HBAD.out _ HE.out ((Grow.refl _).drewN _)
        · go_wp2
          refine ⟨⟨k + 1, by omega, rfl, ?_, m, rfl⟩, by simp only [intOf]; omega⟩
          rw [List.take_add_one, List.getElem?_eq_getElem hkl]
          refine HA.out.append fun b hb => ?_
          have : b = l[k] := by simpa using hb
          rw [this]
          have := HZ.out
          omega
    · have hki : ¬ (k : Int) < (n : Int) := by omega
      have hd : AllD l := by
        have := HA.out
        rwa [List.take_of_length_le (by have := HN.out; omega)] at this
      have HD := hid hd
      clear hd HA
      by_cases h0 : n = 0
      · have HE := hid (show parseErr l = 3 by unfold parseErr; rw [if_pos (.inl (List.eq_nil_of_length_eq_zero (by rw [← HN.out]; exact h0)))])
        subst h0
        go_wp2
        go_ret2
        exact HBAD.out _ HE.out ((Grow.refl _).drewN _)
      · have hn0 : 0 < n := by omega
        obtain ⟨z, hz⟩ : ∃ z : Nat, (l[0]'(by have := HN.out; omega)).toNat = z := ⟨_, rfl⟩
        have ix : ∀ W : World, (Instr.index 9 (.string S) (.int .i64 0)).run Tryz.prog W = .ok (.int .u8 (z : Int)) W := by
          have := IX.out 0 (by have := HN.out; omega)
          rw [hz] at this
          exact this
        have HZ := hid (show l.head? = some 48 ↔ z = 48 by
          cases l with
          | nil => have := HN.out; simp at this; omega
          | cons c m =>
            simp only [List.getElem_cons_zero] at hz
            rw [← hz, List.head?_cons, Option.some.injEq]
            exact ⟨fun e => by rw [e]; rfl, fun e => UInt8.toNat_inj.1 e⟩)
        clear hz
        have ne0 : ((n : Int) == 0) = false := by simp; omega
        by_cases hbad : z = 48 ∧ 1 < n
        · have HE := hid (show parseErr l = 3 by
            unfold parseErr
            rw [if_pos (.inr (.inl ⟨HZ.out.2 hbad.1, by rw [← HN.out]; exact hbad.2⟩))])
          have b1 : ((z : Int) == 48) = true := by simp [hbad.1]
          have b2 : (1 : Int) < (n : Int) := by omega
          clear hbad
          generalize (z : Int) = zi at *
          go_wp2
          go_ret2
          exact HBAD.out _ HE.out ((Grow.refl _).drewN _)
        · have HNE := hid (show ¬ (l = [] ∨ (l.head? = some 48 ∧ 1 < l.length) ∨ l.any (fun b => decide (b.toNat < 48 ∨ 57 < b.toNat))) by
            rintro (h | h | h)
            · have := HN.out; rw [h] at this; exact h0 this
            · exact hbad ⟨HZ.out.1 h.1, by rw [HN.out]; exact h.2⟩
            · rw [any_of HD.out] at h; exact absurd h (by decide))
          have HCC : ((z : Int) == 48) = true ∧ ¬ (1 : Int) < (n : Int) ∨ ((z : Int) == 48) = false := by
            by_cases e : z = 48
            · left; exact ⟨by simp [e], fun h => hbad ⟨e, by omega⟩⟩
            · right; simp; omega
          by_cases hlong : 360 < n
          · have HE := hid (show parseErr l = 5 by unfold parseErr; rw [if_neg HNE.out, if_pos (by rw [← HN.out]; exact hlong)])
            have b3 : (360 : Int) < (n : Int) := by omega
            clear hbad
            generalize (z : Int) = zi at *
            rcases HCC with ⟨b1, b2⟩ | b1
            all_goals
              go_wp2
              go_ret2
              exact HLONG.out _ HE.out ((Grow.refl _).drewN _)
          · have HE := hid (show parseErr l = 0 by unfold parseErr; rw [if_neg HNE.out, if_neg (by rw [← HN.out]; exact hlong)])
            have b3 : ¬ (360 : Int) < (n : Int) := by omega
            clear hbad
            generalize (z : Int) = zi at *
            rcases HCC with ⟨b1, b2⟩ | b1
            all_goals
              go_wp2
              go_loopw [5, 6] (fun ov ev wr => ∃ (os : List Int) (en : Int), ev = .int .i64 en ∧ en ≤ n ∧ (-9 : Int) ≤ en ∧ Own w wr ov os ∧ chs l = os ++ chs (l.take en.toNat) ∧ os.length ≤ n - en.toNat ∧ Grow w wr) (fun _ ev _ => (intOf ev).toNat)
              case atStart => exact ⟨[], n, rfl, Int.le_refl _, by omega, Own.nil _ _, by rw [List.take_of_length_le (by have := HN.out; omega)]; rfl, by simp, (Grow.refl _).drewN _⟩
              case round =>
                obtain ⟨os, en, rfl, he1, he2, ho, hch, hos, hg⟩ := hrel
                have HO := hid ho
                have HCH := hid hch
                have HG := hid hg
                clear ho hch hg
                obtain ⟨AO, mO, cO, rfl⟩ := HO.out.slice_
                by_cases he0 : 0 < en
                · obtain ⟨e, rfl⟩ : ∃ e : Nat, en = (e : Int) := ⟨en.toNat, by omega⟩
                  obtain ⟨lo, hlo⟩ : ∃ lo, lo = e - 9 := ⟨_, rfl⟩
                  have hmx : max (0 : Int) ((e : Int) - 9) = (lo : Int) := by omega
                  have HCT := hid (chs_take (l := l) (e := e) (lo := lo) (by have := HN.out; omega) (by omega) hlo)
                  have hlo2 : lo ≤ e ∧ e - lo ≤ 9 ∧ ((e : Int) - 9).toNat = lo := by omega
                  go_wp2
                  go_loopw [7, 8] (fun nv iv wi => ∃ k, lo ≤ k ∧ k ≤ e ∧ iv = .int .i64 (k : Int) ∧ nv = .int .i64 (vt ((l.take k).drop lo) : Int) ∧ ∃ m, wi = wr.drewN m) (fun _ iv _ => e - (intOf iv).toNat)
                  case atStart => exact ⟨lo, Nat.le_refl _, by omega, by rw [hlo], by rw [List.drop_eq_nil_of_le (by rw [List.length_take]; omega)]; rfl, 0, rfl⟩
                  case round =>
                    obtain ⟨k, hk1, hk2, rfl, rfl, m2, rfl⟩ := hrel
                    by_cases hke : k < e
                    · have hkl : k < l.length := by have := HN.out; omega
                      have ix2 := IX.out k hkl
                      obtain ⟨z2, hz2⟩ : ∃ z2 : Nat, l[k].toNat = z2 := ⟨_, rfl⟩
                      have hdg := HD.out l[k] (List.getElem_mem hkl)
                      have hvs := vt_step hkl hk1
                      rw [hz2] at hdg ix2 hvs
                      have hvl := vt_part_lt HD.out k lo (by omega)
                      have hp := Nat.pow_le_pow_right (show 0 < 10 by decide) (show k - lo ≤ 8 by omega)
                      generalize vt ((l.take k).drop lo) = vv at *
                      have hvv : vv < 100000000 := by
                        have e8 : (10 : Nat) ^ 8 = 100000000 := by decide
                        omega
                      have HV := hid hvs
                      have hki2 : (k : Int) < (e : Int) := by omega
                      clear hvs hvl hp hz2
                      go_wp2
                      exact ⟨⟨k + 1, by omega, by omega, rfl, by congr 1; rw [HV.out]; omega, m2, rfl⟩, by simp only [intOf]; omega⟩
                    · obtain rfl : k = e := by omega
                      have hct := HCT.out
                      have hki2 : ¬ (k : Int) < (k : Int) := by omega
                      generalize vt ((l.take k).drop lo) = vv at *
                      have HCT2 := hid hct
                      clear hct
                      go_wp2_with (at_builtin; refine wpList_append_int w _ (vv : Int) rfl (.tmp 63) (.tmp 65) _ rfl Tryz.underlying24 _ os rfl (HO.out.kept ((Grow.refl _).drewN _)) rfl (by omega) (HG.out.drewN _) ?_; intro v' w' hown' hg')
                      exact ⟨⟨os ++ [(vv : Int)], (k : Int) - 9, rfl, by omega, by omega, hown', by
                        rw [HCH.out, show ((k : Int)).toNat = k by omega, HCT2.out, hlo2.2.2]; simp, by rw [hlo2.2.2, List.length_append]; simp; omega, hg'⟩, by simp only [intOf]; omega⟩
                · have hch := HCH.out
                  rw [show en.toNat = 0 by omega, List.take_zero, chs_nil, List.append_nil] at hch
                  have hdg : Dig os := by rw [← hch]; exact chs_dig _ _ (Nat.le_refl _) HD.out
                  have TM := hid (cut_any _ os wr HO.out.is hdg)
                  have HFIN := hid (fun A m c wf (hn : IsNat wf (.slice A m c) (val os)) (hg : Grow w wf) => (show ParseRes w l (.returned (.tuple #[.slice A m c, .int .i64 0])) wf from ⟨A, m, c, by rw [HE.out], hg, fun h => absurd HE.out h, fun _ => by unfold parseN; rw [hch]; exact hn⟩))
                  clear hch hdg
                  generalize val os = vn at *
                  go_wp2_with (go_at_call 51; refine TM.out.mono ?_; rintro e w' ⟨vT, rfl, ⟨hT, _⟩, rfl⟩; obtain ⟨AT, mT, cT, eT⟩ := hT.slice3; subst eT)
                  go_ret2
                  exact HFIN.out _ _ _ _ hT HG.out
end Go.Proofs.YtomgilkchlediaaGreatDoor
