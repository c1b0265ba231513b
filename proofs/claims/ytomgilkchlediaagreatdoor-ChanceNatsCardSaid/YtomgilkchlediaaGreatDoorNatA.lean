/-
  Walks of the naturals' functions: split, trim, natural, sum.
-/
import Derived.Test.YtomgilkchlediaaGreatDoorProg
import Derived.Test.YtomgilkchlediaaGreatDoorOwn
import Derived.Test.YtomgilkchlediaaGreatDoorDig
namespace Go.Proofs.YtomgilkchlediaaGreatDoor
open Go.RowKit

/-- The value is a slice that reads as the natural n. -/
def IsNat (w : World) (v : Value) (n : Int) : Prop := ∃ zs, Canon zs ∧ val zs = n ∧ IsInts w v zs
theorem IsNat.grow {w w' : World} {v : Value} {n : Int} (h : IsNat w v n) (g : Grow w w') : IsNat w' v n := by
  obtain ⟨zs, h1, h2, h3⟩ := h
  exact ⟨zs, h1, h2, h3.grow g⟩
/-- A natural in a block of integers. -/
def IsNatF (w : World) (v : Value) (n : Int) : Prop := IsNat w v n ∧ Tag w 3 v
theorem IsNatF.grow {w w' : World} {v : Value} {n : Int} (h : IsNatF w v n) (g : Grow w w') : IsNatF w' v n := ⟨h.1.grow g, h.2.grow g⟩
theorem IsNatF.nil {w : World} : IsNatF w (.slice none 0 0) 0 := ⟨⟨[], Canon.nil, rfl, IsInts.nil⟩, Tag.nil⟩
def NatRes (w : World) (n : Int) (e : Ending) (w' : World) : Prop := ∃ v, e = .returned v ∧ IsNatF w' v n ∧ Grow w w'
def TrimRes (w : World) (v0 : Value) (n : Int) (e : Ending) (w' : World) : Prop := ∃ v, e = .returned v ∧ (IsNat w v n ∧ (Tag w 3 v0 → Tag w 3 v)) ∧ w = w'
theorem trim_natF {w : World} {v0 v : Value} {n : Int} (h : IsNat w v n ∧ (Tag w 3 v0 → Tag w 3 v)) (t : Tag w 3 v0) : IsNatF w v n := ⟨h.1, h.2 t⟩

theorem split_any (n : Int) (w : World) (h0 : 0 ≤ n) (h1 : n ≤ 9223372036854775807) :
    Calls Tryz.prog 74 #[.int .i64 n] w fun e w' => e = .returned (.tuple #[.int .i64 (n % 1000000000), .int .i64 (n / 1000000000)]) ∧ w = w' := by
  go_enter Tryz.func74, Tryz.ntmps74
  go_wp2
  go_ret2
  exact ⟨rfl, rfl⟩

def sliceLen : Value → Nat | .slice _ n _ => n | _ => 0

theorem trim_any (v : Value) (zs : List Int) (w : World) (h : IsInts w v zs) (hd : Dig zs) :
    Calls Tryz.prog 38 #[v] w (TrimRes w v (val zs)) := by
  obtain ⟨A, c, rfl, hc, hm, hr⟩ := h
  unfold maxLen at hm
  go_enter Tryz.func38, Tryz.ntmps38
  go_wp2
  go_loop [0] (fun v => ∃ k, k ≤ zs.length ∧ v = .slice A k c ∧ zs.drop k = List.replicate (zs.length - k) 0) (fun v => sliceLen v)
  case atStart => exact ⟨zs.length, Nat.le_refl _, rfl, by simp⟩
  case round =>
    obtain ⟨k, hk, rfl, hz⟩ := hrel
    have hval : val zs = val (zs.take k) := by
      conv => lhs; rw [← List.take_append_drop k zs, val_append, hz, val_zeros]
      simp
    have HZ := hid hz
    have HV := hid hval
    clear hz hval
    have fin : (hl : ∀ h : 0 < (zs.take k).length, (zs.take k)[(zs.take k).length - 1] ≠ 0) → TrimRes w (.slice A zs.length c) (val zs) (.returned (.slice A k c)) w := fun hl =>
      ⟨_, rfl, ⟨⟨zs.take k, canon_of_last (hd.take k) hl, HV.out.symm, A, c, by rw [List.length_take, Nat.min_eq_left hk], by rw [List.length_take]; omega, by unfold maxLen; exact hm, by rw [ints, List.map_take]; exact hr.take k⟩, Tag.cut⟩, rfl⟩
    have FIN := hid fin
    clear fin
    by_cases h0 : 0 < k
    · obtain ⟨ad, rfl, hb, hx⟩ := hr.int (k := k - 1) (by omega)
      by_cases he : zs[k - 1] = 0
      · have he' : (zs[k - 1] == 0) = true := by simp [he]
        have HE := hid he
        clear he
        go_wp2
        refine ⟨⟨k - 1, by omega, rfl, ?_⟩, by simp [sliceLen]; omega⟩
        have e1 : zs.drop (k - 1) = zs[k - 1] :: zs.drop (k - 1 + 1) := List.drop_eq_getElem_cons (by omega)
        rw [e1, show k - 1 + 1 = k from by omega, HZ.out, HE.out, show zs.length - (k - 1) = (zs.length - k) + 1 from by omega, List.replicate_succ]
      · have he' : (zs[k - 1] == 0) = false := by simp [he]
        go_wp2
        go_ret
        exact FIN.out fun _ => by simp only [List.length_take, Nat.min_eq_left hk, List.getElem_take]; exact he
    · go_wp2
      go_ret
      exact FIN.out fun hh => by simp at hh; omega

theorem natural_any (n : Int) (w : World) (h0 : 0 ≤ n) (h1 : n ≤ 9223372036854775807) :
    Calls Tryz.prog 80 #[.int .i64 n] w (NatRes w n) := by
  go_enter Tryz.func80, Tryz.ntmps80
  go_wp2
  go_loopw [0, 3] (fun m v wr => ∃ q os, m = .int .i64 q ∧ 0 ≤ q ∧ q ≤ n ∧ Own w wr v os ∧ Grow w wr ∧ Dig os ∧ val os + radix os.length * q = n ∧ os.length ≤ 3 ∧ (q = 0 → Canon os) ∧ q * radix os.length ≤ 9223372036854775807) (fun m _ _ => (intOf m).toNat)
  case atStart => exact ⟨n, [], rfl, h0, Int.le_refl _, Own.nil _ _, Grow.refl _, Dig.nil, by simp [val, radix], by simp, fun _ => Canon.nil, by simp [radix]; omega⟩
  case round =>
    obtain ⟨q, os, rfl, hq0, hq1, hown, hg, hd, hv, hlen, hcan, hbd⟩ := hrel
    by_cases hp : 0 < q
    · have hlen' : os.length ≤ 2 := by
        rcases Nat.lt_or_ge os.length 3 with hlt | hge
        · omega
        · exfalso
          have : os.length = 3 := by omega
          simp only [this, radix] at hbd
          omega
      have HV := hid hv
      have HC := hid hcan
      have HB := hid hbd
      clear hv hcan hbd
      go_wp2_with (first
        | (go_at_call 74; refine (split_any q _ hq0 (by omega)).mono ?_; rintro e w' ⟨rfl, rfl⟩)
        | (at_builtin; refine wpList_append_int w wr (q % 1000000000) rfl (.tmp 13) (.tmp 15) _ rfl Tryz.underlying24 _ os rfl hown rfl (by omega) hg ?_; intro v' w' hown' hg'))
      have e1 : q = 1000000000 * (q / 1000000000) + q % 1000000000 := by omega
      have r0 := radix_pos os.length
      have hq' : 0 ≤ q / 1000000000 := by omega
      have hbd := HB.out
      have hv := HV.out
      generalize hA : q / 1000000000 = A at *
      generalize hM : q % 1000000000 = M at *
      have hM0 : 0 ≤ M ∧ M < 1000000000 := by omega
      have e2 : radix (os ++ [M]).length = 1000000000 * radix os.length := by simp [radix]
      refine ⟨⟨A, os ++ [M], rfl, hq', by omega, hown', hg', hd.snoc hM0.1 hM0.2, ?_, by simp; omega, ?_, ?_⟩, by simp [intOf] <;> omega⟩
      · rw [val_snoc, e2]; grind
      · intro hA0
        exact canon_of_pos (hd.snoc hM0.1 hM0.2) (by omega)
      · rw [e2]
        have : q * radix os.length = A * (1000000000 * radix os.length) + M * radix os.length := by grind
        have : 0 ≤ M * radix os.length := Int.mul_nonneg hM0.1 (by omega)
        omega
    · have hq : q = 0 := by omega
      subst hq
      have HV := hid hv
      have HC := hid (hcan rfl)
      clear hv hcan hbd
      go_wp2
      go_ret
      exact ⟨_, rfl, ⟨⟨os, HC.out, by have := HV.out; omega, hown.is⟩, hown.tag⟩, hg⟩
end Go.Proofs.YtomgilkchlediaaGreatDoor
