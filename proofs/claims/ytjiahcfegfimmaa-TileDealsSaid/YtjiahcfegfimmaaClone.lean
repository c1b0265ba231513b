/-
  The walk of slices.Clone at integers; what a slice of the call's own bears.
-/
import Derived.Test.YtjiahcfegfimmaaApp
import Derived.Test.YtjiahcfegfimmaaSizes
namespace Go.Proofs.Ytjiahcfegfimmaa
open Go.RowKit

def CloneRes (w : World) (zs : List Int) (e : Ending) (w' : World) : Prop := ∃ v, e = .returned v ∧ Own w w' v zs ∧ Grow w w'
theorem clone_any (v : Value) (zs : List Int) (w : World) (h : IsInts w v zs) (hl : zs.length ≤ 1000000) : Calls Try.prog 79 #[v] w (CloneRes w zs) := by
  have HI := hid h
  obtain ⟨A, c, rfl, hc, hm, hr⟩ := h
  unfold maxLen at hm
  cases A with
  | none =>
    have hz : zs = [] := by
      cases zs with
      | nil => rfl
      | cons z zs => obtain ⟨ad, h, _⟩ := hr.int (k := 0) (by simp); cases h
    subst hz
    have hq := fun W => Lib.run_eql_slice_nil (P := Try.prog) W 22 3 none 0 c 0 0 Try.underlying22
    go_enter Try.func79, Try.ntmps79
    go_wp2
    go_ret
    exact ⟨_, rfl, Own.nil _ _, Grow.refl _⟩
  | some ad =>
    have hq := fun W => Lib.run_eql_slice_nil (P := Try.prog) W 22 3 (some ad) zs.length c 0 0 Try.underlying22
    have hg0 : Grow w (w.alloc (.cells #[] 3)) := (Grow.refl _).alloc _
    have HO := hid (Own.lit0 (Grow.refl w))
    go_enter Try.func79, Try.ntmps79
    go_wp2_with (at_builtin; refine wpList_append_ints w _ rfl (.tmp 5) (.tmp 6) _ rfl Try.underlying22 _ _ [] zs rfl HO.out rfl (HI.out.grow hg0) (by simp; omega) hg0 ?_; intro v' w' ho hg' _)
    go_ret
    exact ⟨v', rfl, by simpa using ho, hg'⟩
theorem Own.form {w0 w : World} {v : Value} {os : List Int} (h : Own w0 w v os) (hl : 0 < os.length) : ∃ g cap, v = .slice (some ⟨g, 0, none⟩) os.length cap ∧ w0.heap.size ≤ g ∧ os.length ≤ cap ∧ cap ≤ maxLen := by
  rcases h.2 with ⟨_, hn⟩ | ⟨g, cap, cur, e, hb, hh, h1, h2, _⟩
  · omega
  · exact ⟨g, cap, e, hb, h1, h2⟩
theorem Own.cell {w0 w : World} {g cap : Nat} {os : List Int} (h : Own w0 w (.slice (some ⟨g, 0, none⟩) os.length cap) os) {i : Nat} (hi : i < os.length) : w.cell? ⟨g, i, none⟩ = some (.int .i64 os[i]) := by
  rw [World.ownsRow.cellAt h i (by omega)]; simp [hi]
theorem Own.free {w0 w : World} {g n cap : Nat} {os : List Int} (h : w.ownsRow w0.heap.size 3 1 (.slice (some ⟨g, 0, none⟩) n cap) n (ints os)) (i : Nat) : w.frozen? ⟨g, i, none⟩ = false := World.ownsRow.frozenAt h i
theorem Own.set {w0 w : World} {g cap : Nat} {os : List Int} (h : Own w0 w (.slice (some ⟨g, 0, none⟩) os.length cap) os) (i : Nat) (z : Int) : Own w0 (w.setCell ⟨g, i, none⟩ (.int .i64 z)) (.slice (some ⟨g, 0, none⟩) os.length cap) (os.set i z) := by
  have h1 := (World.ownsRow.stored h i (.int .i64 z)).1
  unfold Own
  rw [ints, List.map_set, List.length_set]
  exact h1
/-- A part of a list of integers. -/
theorem ints_take {w : World} {A : Option Addr} {c : Nat} {zs : List Int} {n : Nat} (h : IsInts w (.slice A zs.length c) zs) (hn : n ≤ zs.length) : IsInts w (.slice A n c) (zs.take n) := by
  obtain ⟨A', c', e, h1, h2, h3⟩ := h
  injection e with e1 _ e3
  subst e1 e3
  refine ⟨A, c, by rw [List.length_take, Nat.min_eq_left hn], by rw [List.length_take]; omega, h2, ?_⟩
  rw [ints, List.map_take]
  exact h3.take n
end Go.Proofs.Ytjiahcfegfimmaa
