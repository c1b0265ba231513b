/-
  Walks of slices.Grow of nil and slices.Concat of two lists, at integers.
-/
import Derived.Test.YtjiahcfegfimmaaClone
import Derived.Lib.AppendZerosOnto
import Derived.Lib.SliceRun
import Derived.Lib.Walk
namespace Go.Proofs.Ytjiahcfegfimmaa
open Go.RowKit

set_option maxRecDepth 100000 in
theorem grow_nil (n : Nat) (w : World) (hn : n ≤ 1000000) : Calls Try.prog 104 #[.slice none 0 0, .int .i64 (n : Int)] w (CloneRes w []) := by
  obtain ⟨i0, hi0, hz0, hz1, hz2⟩ := info_parts infoInt
  rcases Nat.eq_zero_or_pos n with rfl | hp
  · go_enter Try.func104, Try.ntmps104
    go_wp2
    go_ret
    exact ⟨_, rfl, Own.nil _ _, Grow.refl _⟩
  · have hold : (Builtin.firstCells i0.size 0 (.slice none 0 0)).run Try.prog w.drew = .ok #[] w.drew := run_firstCells_none w.drew i0.size 0 0 0
    have hrz := fun ty => Lib.run_append_grow_zeros (P := Try.prog) w 22 3 ty 3 i0 _ .i64 .i64 Try.underlying22 Try.underlying3 hi0 hz0 none 0 0 [] hold n hp (by omega) (by omega) (by omega) (by rw [hz2]; omega) (growslice_fits (by omega) (by rw [hz2]; omega))
    simp only [Nat.zero_add] at hrz
    have hge := grownCap_ge w n 0 3
    have hG63 := grownCap_le_maxLen w n 0 3 (by unfold maxLen; omega)
    obtain ⟨G, hG⟩ : ∃ G, G = grownCap w n 0 3 := ⟨_, rfl⟩
    rw [← hG] at hrz hge hG63
    have FIN := hid (show CloneRes w [] (.returned (.slice (some ⟨w.heap.size, 0, none⟩) 0 G)) (w.alloc (.cells (Builtin.zeroCells #[.int .i64 0] n ++ Builtin.zeroCells #[.int .i64 0] (G - n)) 3)).drew from
      ⟨_, rfl, ⟨rfl, .inr ⟨w.heap.size, G, _, rfl, Nat.le_refl _, heap_alloc_new w _, Nat.zero_le _, hG63, by simp [size_zeroCells]; omega, rfl⟩⟩, ((Grow.refl w).alloc _).drew⟩)
    have HRZ := hid hrz
    have G0 : (0 : Int) ≤ (G : Int) := by omega
    unfold maxLen at hG63
    clear hold hG hrz
    have n0 : (0 : Int) < (n : Int) := by omega
    go_enter Try.func104, Try.ntmps104
    go_wp2_with (at_builtin; refine Lib.wpList_append_run _ rfl _ _ _ _ rfl _ _ rfl rfl _ _ (HRZ.out _) ?_)
    go_ret
    exact FIN.out

def catTo (xs ys : List Int) : Nat → List Int
  | 0 => []
  | 1 => xs
  | _ => xs ++ ys

set_option maxRecDepth 100000 in
theorem concat_two (L : Nat) (v1 v2 : Value) (xs ys : List Int) (w : World) (hL : Blk w L 22 [v1, v2]) (h1 : IsInts w v1 xs) (h2 : IsInts w v2 ys) (hl : xs.length + ys.length ≤ 1000000) : Calls Try.prog 82 #[.slice (some ⟨L, 0, none⟩) 2 2] w (CloneRes w (xs ++ ys)) := by
  have H1 := hid h1
  have H2 := hid h2
  have HL := hid hL
  obtain ⟨A1, c1, rfl, _, m1, _⟩ := h1
  obtain ⟨A2, c2, rfl, _, m2, _⟩ := h2
  unfold maxLen at m1 m2
  have k0 := hL.cell 0
  have k1 := hL.cell 1
  simp only [List.getElem?_cons_zero, List.getElem?_cons_succ] at k0 k1
  have GN := hid (grow_nil (xs.length + ys.length) w (by omega))
  clear hL
  go_enter Try.func82, Try.ntmps82
  go_wp2
  go_loop [3, 11] (fun z i => ∃ k : Nat, k ≤ 2 ∧ i = .int .i64 (k : Int) ∧ z = .int .i64 (((if 0 < k then xs.length else 0) + (if 1 < k then ys.length else 0) : Nat) : Int)) (fun _ i => 2 - (intOf i).toNat)
  case atStart => exact ⟨0, by omega, rfl, rfl⟩
  case round =>
    obtain ⟨k, hk, rfl, rfl⟩ := hrel
    rcases (show k = 0 ∨ k = 1 ∨ k = 2 by omega) with rfl | rfl | rfl
    · simp only [Nat.lt_irrefl, if_false, Nat.not_lt_zero]
      go_wp2
      exact ⟨⟨1, by omega, by go_num, by simp⟩, by simp only [intOf]; omega⟩
    · simp only [Nat.lt_irrefl, if_false, Nat.zero_lt_one, if_true, Nat.add_zero]
      go_wp2
      exact ⟨⟨2, by omega, by go_num, by simp⟩, by simp only [intOf]; omega⟩
    · simp only [show (0 : Nat) < 2 by omega, show (1 : Nat) < 2 by omega, if_true]
      go_wp2_with (go_at_call 104; refine GN.out.mono ?_; rintro e w1 ⟨v, rfl, ho, hg⟩; have q0 := hg.cell_some k0; have q1 := hg.cell_some k1)
      have HO := hid (And.intro ho hg)
      clear ho hg q0 q1
      go_loopw [6, 8, 27] (fun v _ i wr => ∃ (k : Nat) (u : Value), u = v ∧ k ≤ 2 ∧ i = .int .i64 (k : Int) ∧ Own w wr v (catTo xs ys k) ∧ Grow w wr) (fun _ _ i _ => 2 - (intOf i).toNat)
      case atStart => exact ⟨0, _, rfl, by omega, rfl, HO.out.1, HO.out.2⟩
      case round =>
        obtain ⟨k, v, rfl, hk2, rfl, ho, hg⟩ := hrel
        have q0 := hg.cell_some k0
        have q1 := hg.cell_some k1
        rcases (show k = 0 ∨ k = 1 ∨ k = 2 by omega) with rfl | rfl | rfl
        · go_wp2_with (at_builtin; refine wpList_append_ints w _ rfl (.tmp 31) (.tmp 32) _ rfl Try.underlying22 _ _ _ xs rfl ho rfl (H1.out.grow hg) (by simp [catTo]; omega) hg ?_; intro v' w' ho' hg' _)
          exact ⟨⟨1, _, rfl, by omega, by go_num, by simpa [catTo] using ho', hg'⟩, by simp only [intOf]; omega⟩
        · go_wp2_with (at_builtin; refine wpList_append_ints w _ rfl (.tmp 31) (.tmp 32) _ rfl Try.underlying22 _ _ _ ys rfl ho rfl (H2.out.grow hg) (by simp [catTo]; omega) hg ?_; intro v' w' ho' hg' _)
          exact ⟨⟨2, _, rfl, by omega, by go_num, by simpa [catTo] using ho', hg'⟩, by simp only [intOf]; omega⟩
        · have FIN := hid (show CloneRes w (xs ++ ys) (.returned v) wr from ⟨v, rfl, by simpa [catTo] using ho, hg⟩)
          clear ho
          go_wp2
          go_ret
          exact FIN.out
end Go.Proofs.Ytjiahcfegfimmaa
