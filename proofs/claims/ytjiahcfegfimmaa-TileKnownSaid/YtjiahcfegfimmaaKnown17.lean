/-
  The law's own faces and count; the sets Big and Tiny.
-/
import Derived.Test.YtjiahcfegfimmaaKnown03
import Derived.Test.YtjiahcfegfimmaaKnown04
import Derived.Test.YtjiahcfegfimmaaKnown13
import Derived.Test.YtjiahcfegfimmaaKnown16
import Derived.Deep.RegionLaw
import Derived.Outline
namespace Go.Proofs.Ytjiahcfegfimmaa
open Go.RowKit

def OwnRes (w : World) (zs : List Int) (e : Ending) (w' : World) : Prop := ∃ v, e = .returned v ∧ Own w w' v zs ∧ Grow w w'
theorem countL_any (n : Nat) (w : World) (hn : n ≤ 1000000) : Calls Try.prog 32 #[.int .i64 (n : Int)] w (OwnRes w (upto n)) := by
  go_enter Try.func32, Try.ntmps32
  go_wp2
  go_loopw [3, 4] (fun v i wr => ∃ k : Nat, k ≤ n ∧ i = .int .i64 (k : Int) ∧ Own w wr v (upto k) ∧ Grow w wr) (fun _ i _ => n - (intOf i).toNat)
  case atStart => exact ⟨0, Nat.zero_le _, rfl, Own.nil _ _, Grow.refl _⟩
  case round =>
    obtain ⟨k, hk, rfl, ho, hg⟩ := hrel
    have HO := hid ho
    have HL := hid (upto_length k)
    clear ho
    by_cases hlt : k < n
    · go_wp2_with (at_builtin; refine wpList_append_int w wr _ rfl (.tmp 10) (.tmp 12) _ rfl Try.underlying22 _ (upto k) rfl HO.out rfl (by rw [HL.out]; omega) hg ?_; intro v' w' ho' hg')
      exact ⟨⟨k + 1, by omega, by go_num, by rw [upto_succ]; exact ho', hg'⟩, by simp only [intOf]; omega⟩
    · obtain rfl : k = n := by omega
      go_wp2
      go_ret
      exact ⟨_, rfl, HO.out, hg⟩

def FacesRes (w : World) (fs : List (Int × Bool)) (e : Ending) (w' : World) : Prop := ∃ v, e = .returned v ∧ OwnF w w' v fs ∧ Grow w w'
def faceOf (z : Int) : Int × Bool := (z % 100, decide (100 ≤ z))
theorem faces_any (v : Value) (zs : List Int) (w : World) (h : IsInts w v zs) (hz : ∀ z ∈ zs, 0 ≤ z ∧ z ≤ 1000) (hl : zs.length ≤ 1000000) : Calls Try.prog 77 #[v] w (FacesRes w (zs.map faceOf)) := by
  obtain ⟨A, c, rfl, hc, hm, hr⟩ := h
  unfold maxLen at hm
  have HZ := hid hz
  have HR := hid hr
  clear hz hr
  go_enter Try.func77, Try.ntmps77
  go_wp2
  go_loopw [3, 4] (fun v i wr => ∃ k : Nat, k ≤ zs.length ∧ i = .int .i64 (k : Int) ∧ OwnF w wr v ((zs.take k).map faceOf) ∧ Grow w wr) (fun _ i _ => zs.length - (intOf i).toNat)
  case atStart => exact ⟨0, Nat.zero_le _, rfl, OwnF.nil, Grow.refl _⟩
  case round =>
    obtain ⟨k, hk, rfl, ho, hg⟩ := hrel
    have HO := hid ho
    clear ho
    by_cases hlt : k < zs.length
    · have gd : Grow wr wr.drew := (Grow.refl wr).drew
      obtain ⟨ad, rfl, _, hx⟩ := (HR.out.grow (hg.trans gd)).int hlt
      have i0 : (0 : Int) ≤ (k : Int) := by omega
      have i1 : (k : Int) < (zs.length : Int) := by omega
      have hz := HZ.out zs[k] (List.getElem_mem hlt)
      have HT := hid (show (zs.take (k + 1)).map faceOf = (zs.take k).map faceOf ++ [faceOf zs[k]] by rw [List.take_succ_eq_append_getElem hlt, List.map_append]; rfl)
      generalize zs[k] = z at *
      obtain ⟨v', w', hrun, ho', hg', _⟩ := run_append_face w wr.drew 25 25 Try.underlying25 (faceOf z) _ _ (HO.out.kept gd) (by rw [List.length_map, List.length_take]; omega) (hg.trans gd)
      have t1 : IntKind.i64.wrap (z.tmod 100) = z % 100 := by rw [Int.tmod_eq_emod_of_nonneg hz.1]; exact IntWalk.i64_in _ (by omega)
      have t2 : z.tmod 100 = z % 100 := Int.tmod_eq_emod_of_nonneg hz.1
      simp only [faceOf] at hrun
      have HRUN := hid hrun
      have T1 := hid t1
      have NEW := hid ho'
      clear hrun ho'
      go_wp2
      go_region_law (refine step_append_run rfl (.tmp 11) (.tmp 23) _ rfl rfl rfl HRUN.out ?_)
      all_goals
        go_wp2
        exact ⟨⟨k + 1, by omega, by go_num, by rw [HT.out]; exact NEW.out, hg'⟩, by simp only [intOf]; omega⟩
    · obtain rfl : k = zs.length := by omega
      go_wp2
      go_ret
      exact ⟨_, rfl, by have := HO.out; rwa [List.take_length] at this, hg⟩

def bigT : TSet := ⟨4, [9, 9, 9], 4, 3, 0, 4, 4, 14, [4, 13, 22]⟩
def tinyT : TSet := ⟨3, [3], 0, 1, 0, 4, 1, 2, [1]⟩
def SetRes (w : World) (s : TSet) (e : Ending) (w' : World) : Prop := ∃ v, e = .returned v ∧ IsSet w' v s ∧ Grow w w'
theorem Big_any (w : World) : Calls Try.prog 68 #[] w (SetRes w bigT) := by
  have b1 : Blk (((w.alloc (.cells #[.int .i64 4, .slice (some ⟨w.heap.size + 1, 0, none⟩) 3 3, .int .i64 4, .int .i64 3, .int .i64 0, .int .i64 4, .int .i64 4, .int .i64 14, .slice (some ⟨w.heap.size + 1 + 1, 0, none⟩) 3 3] 24)).alloc (.cells #[.int .i64 9, .int .i64 9, .int .i64 9] 3)).alloc (.cells #[.int .i64 4, .int .i64 13, .int .i64 22] 3)) (w.heap.size + 1) 3 (ints [9, 9, 9]) := Blk.grow (Blk.new_at (w := (w.alloc (.cells #[.int .i64 4, .slice (some ⟨w.heap.size + 1, 0, none⟩) 3 3, .int .i64 4, .int .i64 3, .int .i64 0, .int .i64 4, .int .i64 4, .int .i64 14, .slice (some ⟨w.heap.size + 1 + 1, 0, none⟩) 3 3] 24))) (xs := ints [9, 9, 9]) (by simp)) ((Grow.refl _).alloc _)
  have b2 : Blk (((w.alloc (.cells #[.int .i64 4, .slice (some ⟨w.heap.size + 1, 0, none⟩) 3 3, .int .i64 4, .int .i64 3, .int .i64 0, .int .i64 4, .int .i64 4, .int .i64 14, .slice (some ⟨w.heap.size + 1 + 1, 0, none⟩) 3 3] 24)).alloc (.cells #[.int .i64 9, .int .i64 9, .int .i64 9] 3)).alloc (.cells #[.int .i64 4, .int .i64 13, .int .i64 22] 3)) (w.heap.size + 1 + 1) 3 (ints [4, 13, 22]) := Blk.new_at (w := ((w.alloc (.cells #[.int .i64 4, .slice (some ⟨w.heap.size + 1, 0, none⟩) 3 3, .int .i64 4, .int .i64 3, .int .i64 0, .int .i64 4, .int .i64 4, .int .i64 14, .slice (some ⟨w.heap.size + 1 + 1, 0, none⟩) 3 3] 24)).alloc (.cells #[.int .i64 9, .int .i64 9, .int .i64 9] 3))) (xs := ints [4, 13, 22]) (by simp)
  have i1 := hid (b1.is (by unfold maxLen; simp))
  have i2 := hid (b2.is (by unfold maxLen; simp))
  clear b1 b2
  go_enter Try.func68, Try.ntmps68
  go_wp2
  exact bodyPost_ret (v := .agg #[.int .i64 4, .slice (some ⟨w.heap.size + 1, 0, none⟩) 3 3, .int .i64 4, .int .i64 3, .int .i64 0, .int .i64 4, .int .i64 4, .int .i64 14, .slice (some ⟨w.heap.size + 1 + 1, 0, none⟩) 3 3]) (by simp [results, Try.results68, go_sem]) rfl ⟨_, rfl, ⟨_, _, rfl, i1.out, i2.out⟩, (((Grow.refl _).alloc _).alloc _).alloc _⟩
theorem Tiny_any (w : World) : Calls Try.prog 69 #[] w (SetRes w tinyT) := by
  have b1 : Blk (((w.alloc (.cells #[.int .i64 3, .slice (some ⟨w.heap.size + 1, 0, none⟩) 1 1, .int .i64 0, .int .i64 1, .int .i64 0, .int .i64 4, .int .i64 1, .int .i64 2, .slice (some ⟨w.heap.size + 1 + 1, 0, none⟩) 1 1] 24)).alloc (.cells #[.int .i64 3] 3)).alloc (.cells #[.int .i64 1] 3)) (w.heap.size + 1) 3 (ints [3]) := Blk.grow (Blk.new_at (w := (w.alloc (.cells #[.int .i64 3, .slice (some ⟨w.heap.size + 1, 0, none⟩) 1 1, .int .i64 0, .int .i64 1, .int .i64 0, .int .i64 4, .int .i64 1, .int .i64 2, .slice (some ⟨w.heap.size + 1 + 1, 0, none⟩) 1 1] 24))) (xs := ints [3]) (by simp)) ((Grow.refl _).alloc _)
  have b2 : Blk (((w.alloc (.cells #[.int .i64 3, .slice (some ⟨w.heap.size + 1, 0, none⟩) 1 1, .int .i64 0, .int .i64 1, .int .i64 0, .int .i64 4, .int .i64 1, .int .i64 2, .slice (some ⟨w.heap.size + 1 + 1, 0, none⟩) 1 1] 24)).alloc (.cells #[.int .i64 3] 3)).alloc (.cells #[.int .i64 1] 3)) (w.heap.size + 1 + 1) 3 (ints [1]) := Blk.new_at (w := ((w.alloc (.cells #[.int .i64 3, .slice (some ⟨w.heap.size + 1, 0, none⟩) 1 1, .int .i64 0, .int .i64 1, .int .i64 0, .int .i64 4, .int .i64 1, .int .i64 2, .slice (some ⟨w.heap.size + 1 + 1, 0, none⟩) 1 1] 24)).alloc (.cells #[.int .i64 3] 3))) (xs := ints [1]) (by simp)
  have i1 := hid (b1.is (by unfold maxLen; simp))
  have i2 := hid (b2.is (by unfold maxLen; simp))
  clear b1 b2
  go_enter Try.func69, Try.ntmps69
  go_wp2
  exact bodyPost_ret (v := .agg #[.int .i64 3, .slice (some ⟨w.heap.size + 1, 0, none⟩) 1 1, .int .i64 0, .int .i64 1, .int .i64 0, .int .i64 4, .int .i64 1, .int .i64 2, .slice (some ⟨w.heap.size + 1 + 1, 0, none⟩) 1 1]) (by simp [results, Try.results69, go_sem]) rfl ⟨_, rfl, ⟨_, _, rfl, i1.out, i2.out⟩, (((Grow.refl _).alloc _).alloc _).alloc _⟩
end Go.Proofs.Ytjiahcfegfimmaa
