/-
  Parts of the proof: Eq, Faces.
-/
import Derived.Test.YtjiahcfegfimmaaNotes03
import Derived.Deep.QuietTactic
import Derived.BigQuiet
import Derived.Test.YtjiahcfegfimmaaNotes04
import Derived.Test.YtjiahcfegfimmaaNotes05
import Derived.Test.YtjiahcfegfimmaaNotes14
import Derived.Test.YtjiahcfegfimmaaNotes20
import Derived.Deep.RegionLaw
import Derived.Outline
/-
  Walks of the kit's small functions: Into, Equal, In; and of the reference's Has.
-/
namespace Go.Proofs.Ytjiahcfegfimmaa
open Go.RowKit

theorem Into_any (n m : Int) (w : World) (hn0 : -9223372036854775808 ≤ n) (hn : n ≤ 9223372036854775807) (h0 : 1 ≤ m) (h1 : m ≤ 1000000000) : Calls Try.prog 33 #[.int .i64 n, .int .i64 m] w (Same w (.int .i64 (n % m))) := by
  have hfin : ∀ r, r = n % m → Same w (.int .i64 (n % m)) (.returned (.int .i64 r)) w := fun r hr => ⟨by rw [hr], rfl⟩
  have HF := hid hfin
  clear hfin
  by_cases hs : 0 ≤ n
  · have h2 := Int.emod_nonneg n (show m ≠ 0 by omega)
    have h3 := Int.emod_lt_of_pos n (show 0 < m by omega)
    go_enter Try.func33, Try.ntmps33
    go_wp2
    go_ret
    exact HF.out _ rfl
  · have e0 : n.tmod m = -((-n) % m) := by
      conv => lhs; rw [show n = -(-n) by omega, Int.neg_tmod, Int.tmod_eq_emod_of_nonneg (by omega)]
    have h2 := Int.emod_nonneg (-n) (show m ≠ 0 by omega)
    have h3 := Int.emod_lt_of_pos (-n) (show 0 < m by omega)
    by_cases hz : (-n) % m = 0
    · have e1 : n % m = 0 := by
        have : m ∣ -n := Int.dvd_of_emod_eq_zero hz
        exact Int.emod_eq_zero_of_dvd (by simpa using (Int.dvd_neg.2 this))
      have e2 : n.tmod m = 0 := by rw [e0, hz]; rfl
      have HE := hid e1
      have t0 : 0 ≤ n.tmod m := by omega
      have t1 : n.tmod m ≤ 0 := by omega
      have HE2 := hid e2
      clear e0 e1 e2 hz h2 h3
      go_enter Try.func33, Try.ntmps33
      go_wp2
      go_ret
      exact HF.out _ (by rw [HE.out]; exact HE2.out)
    · have e1 : n % m = n.tmod m + m := by
        rw [e0]
        have h4 := Int.mul_ediv_add_emod (-n) m
        have h6 : n = (m - (-n) % m) + m * (-((-n) / m) - 1) := by
          generalize (-n) / m = q at *
          generalize (-n) % m = r at *
          grind
        conv => lhs; rw [h6, Int.add_mul_emod_self_left]
        rw [Int.emod_eq_of_lt (by omega) (by omega)]
        omega
      have HE := hid e1
      have t0 : n.tmod m < 0 := by omega
      have t1 : -m < n.tmod m := by omega
      clear e0 e1 hz h2 h3
      go_enter Try.func33, Try.ntmps33
      go_wp2
      go_ret
      exact HF.out _ (by rw [HE.out])

theorem Equal_any (v1 v2 : Value) (xs ys : List Int) (w : World) (h1 : IsInts w v1 xs) (h2 : IsInts w v2 ys) : Calls Try.prog 22 #[v1, v2] w (Says w (.bool (decide (xs = ys)))) := by
  obtain ⟨A, c, rfl, hc, hm, hr⟩ := h1
  obtain ⟨B, d, rfl, hd, hm', hs⟩ := h2
  unfold maxLen at hm hm'
  have hfin : ∀ b : Bool, decide (xs = ys) = b → ∀ n, Says w (.bool (decide (xs = ys))) (.returned (.bool b)) (w.drewN n) := fun b hb n => ⟨by rw [hb], n, rfl⟩
  have HF := hid hfin
  clear hfin
  by_cases hl : xs.length = ys.length
  · have hne : ((xs.length : Int) != (ys.length : Int)) = false := by simp [hl]
    have hne' : (xs.length != ys.length) = false := by simp [hl]
    have HL := hid hl
    have hl1 : xs.length ≤ ys.length := by omega
    have hl2 : ys.length ≤ xs.length := by omega
    clear hl
    go_enter Try.func22, Try.ntmps22
    go_wp2
    go_loopw [5] (fun i wr => ∃ k : Nat, k ≤ xs.length ∧ i = .int .i64 (k : Int) ∧ (∀ j (h : j < xs.length) (h' : j < ys.length), j < k → xs[j] = ys[j]) ∧ ∃ n, wr = w.drewN n) (fun i _ => xs.length - (intOf i).toNat)
    case atStart => exact ⟨0, Nat.zero_le _, rfl, by simp, 0, rfl⟩
    case round =>
      obtain ⟨k, hk, rfl, hdr, n, rfl⟩ := hrel
      have HD := hid hdr
      clear hdr
      by_cases h0 : k < xs.length
      · have h0' : k < ys.length := by omega
        obtain ⟨ad, rfl, hb, hx⟩ := hr.int h0
        obtain ⟨ad', rfl, hb', hx'⟩ := hs.int h0'
        have i0 : (0 : Int) ≤ (k : Int) := by omega
        have i1 : (k : Int) < (xs.length : Int) := by omega
        have i2 : (k : Int) < (ys.length : Int) := by omega
        by_cases he : xs[k] = ys[k]
        · have he' : (xs[k] != ys[k]) = false := by simp [he]
          have HE := hid he
          clear he
          go_wp2
          go_quiet (fail)
          go_wp2
          refine ⟨⟨k + 1, by omega, by go_num, fun j h h' hj => ?_, _, rfl⟩, by simp only [intOf]; omega⟩
          by_cases e : j = k
          · subst e; exact HE.out
          · exact HD.out j h h' (by omega)
        · have he' : (xs[k] != ys[k]) = true := by simp [he]
          have HE := hid he
          clear he
          go_wp2
          go_quiet (fail)
          go_wp2
          go_ret
          rw [World.drewN_drewN]
          exact HF.out false (decide_eq_false fun e => HE.out (by subst e; rfl)) _
      · go_wp2
        go_ret
        exact HF.out true (decide_eq_true (List.ext_getElem HL.out fun j h h' => HD.out j h h' (by omega))) _
  · have hne : ((xs.length : Int) != (ys.length : Int)) = true := by simp; omega
    have hne' : (xs.length != ys.length) = true := by simp; omega
    have HL := hid hl
    clear hl
    go_enter Try.func22, Try.ntmps22
    go_wp2
    go_ret
    exact HF.out false (decide_eq_false fun e => HL.out (by rw [e])) 0

theorem In_any (v : Value) (zs : List Int) (n : Int) (w : World) (h : IsInts w v zs) : Calls Try.prog 53 #[v, .int .i64 n] w (Same w (.bool (decide (n ∈ zs)))) := by
  obtain ⟨A, c, rfl, hc, hm, hr⟩ := h
  unfold maxLen at hm
  have hfin : ∀ b : Bool, decide (n ∈ zs) = b → Same w (.bool (decide (n ∈ zs))) (.returned (.bool b)) w := fun b hb => ⟨by rw [hb], rfl⟩
  have HF := hid hfin
  clear hfin
  go_enter Try.func53, Try.ntmps53
  go_wp2
  go_loop [5] (fun i => ∃ k : Nat, k ≤ zs.length ∧ i = .int .i64 (k : Int) ∧ ∀ j (h : j < zs.length), j < k → zs[j] ≠ n) (fun i => zs.length - (intOf i).toNat)
  case atStart => exact ⟨0, Nat.zero_le _, rfl, by simp⟩
  case round =>
    obtain ⟨k, hk, rfl, hno⟩ := hrel
    have HN := hid hno
    clear hno
    by_cases hlt : k < zs.length
    · obtain ⟨ad, rfl, _, hx⟩ := hr.int hlt
      have i0 : (0 : Int) ≤ (k : Int) := by omega
      have i1 : (k : Int) < (zs.length : Int) := by omega
      by_cases he : zs[k] = n
      · have he' : (zs[k] == n) = true := by simp [he]
        have FIN := hid (show decide (n ∈ zs) = true by rw [decide_eq_true]; exact he ▸ List.getElem_mem hlt)
        clear he
        go_wp2
        go_ret
        exact HF.out _ FIN.out
      · have he' : (zs[k] == n) = false := by simpa using he
        have HE := hid he
        clear he
        go_wp2
        refine ⟨⟨k + 1, by omega, by go_num, fun j h hj => ?_⟩, by simp only [intOf]; omega⟩
        by_cases e : j = k
        · subst e; exact HE.out
        · exact HN.out j h (by omega)
    · go_wp2
      go_ret
      refine HF.out _ (decide_eq_false fun hm => ?_)
      obtain ⟨j, hj, e⟩ := List.getElem_of_mem hm
      exact HN.out j hj (by omega) e

theorem Has_any (v : Value) (zs : List Int) (n : Int) (w : World) (h : IsInts w v zs) : Calls Try.prog 97 #[v, .int .i64 n] w (Same w (.bool (decide (n ∈ zs)))) := by
  obtain ⟨A, c, rfl, hc, hm, hr⟩ := h
  unfold maxLen at hm
  have hfin : ∀ b : Bool, decide (n ∈ zs) = b → Same w (.bool (decide (n ∈ zs))) (.returned (.bool b)) w := fun b hb => ⟨by rw [hb], rfl⟩
  have HF := hid hfin
  clear hfin
  go_enter Try.func97, Try.ntmps97
  go_wp2
  go_loop [5] (fun i => ∃ k : Nat, k ≤ zs.length ∧ i = .int .i64 (k : Int) ∧ ∀ j (h : j < zs.length), j < k → zs[j] ≠ n) (fun i => zs.length - (intOf i).toNat)
  case atStart => exact ⟨0, Nat.zero_le _, rfl, by simp⟩
  case round =>
    obtain ⟨k, hk, rfl, hno⟩ := hrel
    have HN := hid hno
    clear hno
    by_cases hlt : k < zs.length
    · obtain ⟨ad, rfl, _, hx⟩ := hr.int hlt
      have i0 : (0 : Int) ≤ (k : Int) := by omega
      have i1 : (k : Int) < (zs.length : Int) := by omega
      by_cases he : zs[k] = n
      · have he' : (zs[k] == n) = true := by simp [he]
        have FIN := hid (show decide (n ∈ zs) = true by rw [decide_eq_true]; exact he ▸ List.getElem_mem hlt)
        clear he
        go_wp2
        go_ret
        exact HF.out _ FIN.out
      · have he' : (zs[k] == n) = false := by simpa using he
        have HE := hid he
        clear he
        go_wp2
        refine ⟨⟨k + 1, by omega, by go_num, fun j h hj => ?_⟩, by simp only [intOf]; omega⟩
        by_cases e : j = k
        · subst e; exact HE.out
        · exact HN.out j h (by omega)
    · go_wp2
      go_ret
      refine HF.out _ (decide_eq_false fun hm => ?_)
      obtain ⟨j, hj, e⟩ := List.getElem_of_mem hm
      exact HN.out j hj (by omega) e

end Go.Proofs.Ytjiahcfegfimmaa

/-
  The law's own faces and count; the sets Big and Tiny.
-/
namespace Go.Proofs.Ytjiahcfegfimmaa
open Go.RowKit

def OwnRes (w : World) (zs : List Int) (e : Ending) (w' : World) : Prop := ∃ v, e = .returned v ∧ Own w w' v zs ∧ Grow w w'
theorem countL_any (n : Nat) (w : World) (hn : n ≤ 1000000) : Calls Try.prog 32 #[.int .i64 (n : Int)] w (OwnRes w (upto n)) := by
  go_enter Try.func32, Try.ntmps32
  go_wp2
  go_loopw [3, 4] (fun v i wr => ∃ k : Nat, k ≤ n ∧ i = .int .i64 (k : Int) ∧ Own w wr v (upto k) ∧ Grow w wr) (fun _ i _ => n - (intOf i).toNat)
  case atStart => exact ⟨0, Nat.zero_le _, rfl, Own.nil _ _, Grow.refl _⟩
  case round =>
    obtain ⟨k, hk, rfl, ho, hg⟩ := hrel
    have HO := hid ho
    have HL := hid (upto_length k)
    clear ho
    by_cases hlt : k < n
    · go_wp2_with (at_builtin; refine wpList_append_int w wr _ rfl (.tmp 10) (.tmp 12) _ rfl Try.underlying22 _ (upto k) rfl HO.out rfl (by rw [HL.out]; omega) hg ?_; intro v' w' ho' hg')
      exact ⟨⟨k + 1, by omega, by go_num, by rw [upto_succ]; exact ho', hg'⟩, by simp only [intOf]; omega⟩
    · obtain rfl : k = n := by omega
      go_wp2
      go_ret
      exact ⟨_, rfl, HO.out, hg⟩

def FacesRes (w : World) (fs : List (Int × Bool)) (e : Ending) (w' : World) : Prop := ∃ v, e = .returned v ∧ OwnF w w' v fs ∧ Grow w w'
def faceOf (z : Int) : Int × Bool := (z % 100, decide (100 ≤ z))
theorem faces_any (v : Value) (zs : List Int) (w : World) (h : IsInts w v zs) (hz : ∀ z ∈ zs, 0 ≤ z ∧ z ≤ 1000) (hl : zs.length ≤ 1000000) : Calls Try.prog 77 #[v] w (FacesRes w (zs.map faceOf)) := by
  obtain ⟨A, c, rfl, hc, hm, hr⟩ := h
  unfold maxLen at hm
  have HZ := hid hz
  have HR := hid hr
  clear hz hr
  go_enter Try.func77, Try.ntmps77
  go_wp2
  go_loopw [3, 4] (fun v i wr => ∃ k : Nat, k ≤ zs.length ∧ i = .int .i64 (k : Int) ∧ OwnF w wr v ((zs.take k).map faceOf) ∧ Grow w wr) (fun _ i _ => zs.length - (intOf i).toNat)
  case atStart => exact ⟨0, Nat.zero_le _, rfl, OwnF.nil, Grow.refl _⟩
  case round =>
    obtain ⟨k, hk, rfl, ho, hg⟩ := hrel
    have HO := hid ho
    clear ho
    by_cases hlt : k < zs.length
    · have gd : Grow wr wr.drew := (Grow.refl wr).drew
      obtain ⟨ad, rfl, _, hx⟩ := (HR.out.grow (hg.trans gd)).int hlt
      have i0 : (0 : Int) ≤ (k : Int) := by omega
      have i1 : (k : Int) < (zs.length : Int) := by omega
      have hz := HZ.out zs[k] (List.getElem_mem hlt)
      have HT := hid (show (zs.take (k + 1)).map faceOf = (zs.take k).map faceOf ++ [faceOf zs[k]] by rw [List.take_succ_eq_append_getElem hlt, List.map_append]; rfl)
      generalize zs[k] = z at *
      obtain ⟨v', w', hrun, ho', hg', _⟩ := run_append_face w wr.drew 25 25 Try.underlying25 (faceOf z) _ _ (HO.out.kept gd) (by rw [List.length_map, List.length_take]; omega) (hg.trans gd)
      have t1 : IntKind.i64.wrap (z.tmod 100) = z % 100 := by rw [Int.tmod_eq_emod_of_nonneg hz.1]; exact IntWalk.i64_in _ (by omega)
      have t2 : z.tmod 100 = z % 100 := Int.tmod_eq_emod_of_nonneg hz.1
      simp only [faceOf] at hrun
      have HRUN := hid hrun
      have T1 := hid t1
      have NEW := hid ho'
      clear hrun ho'
      go_wp2
      go_region_law (refine step_append_run rfl (.tmp 11) (.tmp 23) _ rfl rfl rfl HRUN.out ?_)
      all_goals
        go_wp2
        exact ⟨⟨k + 1, by omega, by go_num, by rw [HT.out]; exact NEW.out, hg'⟩, by simp only [intOf]; omega⟩
    · obtain rfl : k = zs.length := by omega
      go_wp2
      go_ret
      exact ⟨_, rfl, by have := HO.out; rwa [List.take_length] at this, hg⟩

def bigT : TSet := ⟨4, [9, 9, 9], 4, 3, 0, 4, 4, 14, [4, 13, 22]⟩
def tinyT : TSet := ⟨3, [3], 0, 1, 0, 4, 1, 2, [1]⟩
def SetRes (w : World) (s : TSet) (e : Ending) (w' : World) : Prop := ∃ v, e = .returned v ∧ IsSet w' v s ∧ Grow w w'
theorem Big_any (w : World) : Calls Try.prog 68 #[] w (SetRes w bigT) := by
  have b1 : Blk (((w.alloc (.cells #[.int .i64 4, .slice (some ⟨w.heap.size + 1, 0, none⟩) 3 3, .int .i64 4, .int .i64 3, .int .i64 0, .int .i64 4, .int .i64 4, .int .i64 14, .slice (some ⟨w.heap.size + 1 + 1, 0, none⟩) 3 3] 24)).alloc (.cells #[.int .i64 9, .int .i64 9, .int .i64 9] 3)).alloc (.cells #[.int .i64 4, .int .i64 13, .int .i64 22] 3)) (w.heap.size + 1) 3 (ints [9, 9, 9]) := Blk.grow (Blk.new_at (w := (w.alloc (.cells #[.int .i64 4, .slice (some ⟨w.heap.size + 1, 0, none⟩) 3 3, .int .i64 4, .int .i64 3, .int .i64 0, .int .i64 4, .int .i64 4, .int .i64 14, .slice (some ⟨w.heap.size + 1 + 1, 0, none⟩) 3 3] 24))) (xs := ints [9, 9, 9]) (by simp)) ((Grow.refl _).alloc _)
  have b2 : Blk (((w.alloc (.cells #[.int .i64 4, .slice (some ⟨w.heap.size + 1, 0, none⟩) 3 3, .int .i64 4, .int .i64 3, .int .i64 0, .int .i64 4, .int .i64 4, .int .i64 14, .slice (some ⟨w.heap.size + 1 + 1, 0, none⟩) 3 3] 24)).alloc (.cells #[.int .i64 9, .int .i64 9, .int .i64 9] 3)).alloc (.cells #[.int .i64 4, .int .i64 13, .int .i64 22] 3)) (w.heap.size + 1 + 1) 3 (ints [4, 13, 22]) := Blk.new_at (w := ((w.alloc (.cells #[.int .i64 4, .slice (some ⟨w.heap.size + 1, 0, none⟩) 3 3, .int .i64 4, .int .i64 3, .int .i64 0, .int .i64 4, .int .i64 4, .int .i64 14, .slice (some ⟨w.heap.size + 1 + 1, 0, none⟩) 3 3] 24)).alloc (.cells #[.int .i64 9, .int .i64 9, .int .i64 9] 3))) (xs := ints [4, 13, 22]) (by simp)
  have i1 := hid (b1.is (by unfold maxLen; simp))
  have i2 := hid (b2.is (by unfold maxLen; simp))
  clear b1 b2
  go_enter Try.func68, Try.ntmps68
  go_wp2
  exact bodyPost_ret (v := .agg #[.int .i64 4, .slice (some ⟨w.heap.size + 1, 0, none⟩) 3 3, .int .i64 4, .int .i64 3, .int .i64 0, .int .i64 4, .int .i64 4, .int .i64 14, .slice (some ⟨w.heap.size + 1 + 1, 0, none⟩) 3 3]) (by simp [results, Try.results68, go_sem]) rfl ⟨_, rfl, ⟨_, _, rfl, i1.out, i2.out⟩, (((Grow.refl _).alloc _).alloc _).alloc _⟩
theorem Tiny_any (w : World) : Calls Try.prog 69 #[] w (SetRes w tinyT) := by
  have b1 : Blk (((w.alloc (.cells #[.int .i64 3, .slice (some ⟨w.heap.size + 1, 0, none⟩) 1 1, .int .i64 0, .int .i64 1, .int .i64 0, .int .i64 4, .int .i64 1, .int .i64 2, .slice (some ⟨w.heap.size + 1 + 1, 0, none⟩) 1 1] 24)).alloc (.cells #[.int .i64 3] 3)).alloc (.cells #[.int .i64 1] 3)) (w.heap.size + 1) 3 (ints [3]) := Blk.grow (Blk.new_at (w := (w.alloc (.cells #[.int .i64 3, .slice (some ⟨w.heap.size + 1, 0, none⟩) 1 1, .int .i64 0, .int .i64 1, .int .i64 0, .int .i64 4, .int .i64 1, .int .i64 2, .slice (some ⟨w.heap.size + 1 + 1, 0, none⟩) 1 1] 24))) (xs := ints [3]) (by simp)) ((Grow.refl _).alloc _)
  have b2 : Blk (((w.alloc (.cells #[.int .i64 3, .slice (some ⟨w.heap.size + 1, 0, none⟩) 1 1, .int .i64 0, .int .i64 1, .int .i64 0, .int .i64 4, .int .i64 1, .int .i64 2, .slice (some ⟨w.heap.size + 1 + 1, 0, none⟩) 1 1] 24)).alloc (.cells #[.int .i64 3] 3)).alloc (.cells #[.int .i64 1] 3)) (w.heap.size + 1 + 1) 3 (ints [1]) := Blk.new_at (w := ((w.alloc (.cells #[.int .i64 3, .slice (some ⟨w.heap.size + 1, 0, none⟩) 1 1, .int .i64 0, .int .i64 1, .int .i64 0, .int .i64 4, .int .i64 1, .int .i64 2, .slice (some ⟨w.heap.size + 1 + 1, 0, none⟩) 1 1] 24)).alloc (.cells #[.int .i64 3] 3))) (xs := ints [1]) (by simp)
  have i1 := hid (b1.is (by unfold maxLen; simp))
  have i2 := hid (b2.is (by unfold maxLen; simp))
  clear b1 b2
  go_enter Try.func69, Try.ntmps69
  go_wp2
  exact bodyPost_ret (v := .agg #[.int .i64 3, .slice (some ⟨w.heap.size + 1, 0, none⟩) 1 1, .int .i64 0, .int .i64 1, .int .i64 0, .int .i64 4, .int .i64 1, .int .i64 2, .slice (some ⟨w.heap.size + 1 + 1, 0, none⟩) 1 1]) (by simp [results, Try.results69, go_sem]) rfl ⟨_, rfl, ⟨_, _, rfl, i1.out, i2.out⟩, (((Grow.refl _).alloc _).alloc _).alloc _⟩
end Go.Proofs.Ytjiahcfegfimmaa
