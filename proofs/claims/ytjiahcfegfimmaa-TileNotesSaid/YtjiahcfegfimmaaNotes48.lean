/-
  Parts of the proof: Frame, Frame1, Long.
-/
import Derived.Test.YtjiahcfegfimmaaRows
import Derived.Test.YtjiahcfegfimmaaNotes01
import Derived.ProofKit
import Derived.OpenShut
import Derived.ShutString
import Derived.ChangeOld
import Derived.Below
import Derived.Lib.SmallJoins
import Derived.Deep.Slices
import Derived.Test.YtjiahcfegfimmaaNotes03
import Derived.Test.YtjiahcfegfimmaaNotes45
/-
  What a law is handed, out of the row's reading: slices of integers, odds.
-/
namespace Go.Proofs.Ytjiahcfegfimmaa
open Go.RowKit Go.ChangeShapes Go.WideShapes Go.ChangeAt

theorem ownKnobs : ownKnob Try.prog.godebug = none := by kernel_rfl
theorem laidOuts : laidOutB Try.prog = true := by kernel_rfl
theorem cellsInt : Try.prog.cellsOf 3 = 1 := by kernel_rfl

theorem isInts_of_row {w : World} {x : Addr} {l c : Nat} {zs : List Int} (hl : l ≤ c) (hm : c ≤ maxLen) (hz : zs.length = c) (hcell : ∀ i, i < zs.length → w.cell? (x.add i) = some (.int .i64 (zs.getD i 0))) :
    IsInts w (.slice (some x) l c) (zs.take l) := by
  refine ⟨some x, c, by rw [List.length_take, Nat.min_eq_left (by omega)], by rw [List.length_take]; omega, hm, fun i u hu => ?_⟩
  have hi := (List.getElem?_eq_some_iff.1 hu).1
  simp only [ints, List.length_map, List.length_take] at hi
  have hc := hcell i (by omega)
  refine ⟨x, rfl, ?_, ?_⟩
  · have := World.block_lt_of_cell? w _ hc
    rwa [block_add] at this
  · rw [hc, ← hu]
    have h2 : i < zs.length := by omega
    simp [List.getD, h2, show i < l by omega]

section
variable {H : Type} {enc : TypeId × Value → H} {W : World} {spare : Nat → Bool} {held : Bool}
theorem isInts_of_trod {t : TypeId} {fuel : Nat} {v : Value} {x : DataW H × List MemPlace} (ht : Try.prog.underlying t = some (.slice 3)) (h : DataW.trod enc Try.prog W 0 spare held fuel t [v] = some x) (hs : spare = fun _ => true) :
    ∃ zs, IsInts W v zs ∧ ∀ z ∈ zs, (Lit.int .i64 z).wf = true := by
  subst hs
  rcases open_ints ht Try.underlying3 cellsInt h with ⟨hcs, _⟩ | ⟨a, l, c, zs, hcs, _, hl, hm, hz, _, hcell, hwz⟩
  · simp at hcs
    subst hcs
    exact ⟨[], IsInts.nil, by simp⟩
  · simp at hcs
    subst hcs
    exact ⟨zs.take l, isInts_of_row hl hm (by simpa using hz) hcell, fun z hz => hwz z (List.mem_of_mem_take hz)⟩
end
theorem wf_range {n : Int} (h : (Lit.int .i64 n).wf = true) : -9223372036854775808 ≤ n ∧ n ≤ 9223372036854775807 := by
  simp [Lit.wf] at h
  exact h
end Go.Proofs.Ytjiahcfegfimmaa

/-
  What a tile law is handed, out of the row's reading: sets.
-/
namespace Go.Proofs.Ytjiahcfegfimmaa
open Go.Joins Go.ChangeShapes Go.WideShapes Go.RowKit Go.Deep

section
variable {H : Type} {enc : TypeId × Value → H} {P : Program} {w : World} {base : Nat} {spare : Nat → Bool} {held : Bool}
theorem open_agg9 {r : Reach} {b0 : Nat} {t : TypeId} {f0 f1 f2 f3 f4 f5 f6 f7 f8 : Field} {v : Value} {d : DataW H} {p : List MemPlace} (hs : P.underlying t = some (.struct #[f0, f1, f2, f3, f4, f5, f6, f7, f8])) (hone : oneCellFields P #[f0, f1, f2, f3, f4, f5, f6, f7, f8] = true) (hC : P.cellsOf t = 9)
    (hv : Value.okWide P w r b0 t v) (h : DataW.Trod enc P w base spare held t v d p) :
    ∃ (v0 v1 v2 v3 v4 v5 v6 v7 v8 : Value) (y0 y1 y2 y3 y4 y5 y6 y7 y8 : DataW H × List MemPlace) (n : Nat), v = .agg #[v0, v1, v2, v3, v4, v5, v6, v7, v8] ∧
      DataW.trod enc P w base spare held n f0.type [v0] = some y0 ∧ DataW.trod enc P w base spare held n f1.type [v1] = some y1 ∧ DataW.trod enc P w base spare held n f2.type [v2] = some y2 ∧ DataW.trod enc P w base spare held n f3.type [v3] = some y3 ∧ DataW.trod enc P w base spare held n f4.type [v4] = some y4 ∧ DataW.trod enc P w base spare held n f5.type [v5] = some y5 ∧ DataW.trod enc P w base spare held n f6.type [v6] = some y6 ∧ DataW.trod enc P w base spare held n f7.type [v7] = some y7 ∧ DataW.trod enc P w base spare held n f8.type [v8] = some y8 := by
  obtain ⟨cs, rfl, hsz⟩ := okWide_struct hs hv
  obtain ⟨l⟩ := cs
  match l, hsz.trans hC with
  | [c0, c1, c2, c3, c4, c5, c6, c7, c8], _ =>
    obtain ⟨fuel, hf⟩ := h
    obtain ⟨xs, n, _, hx, _, hlen, hg⟩ := DataW.trod_struct hs hf
    obtain ⟨o0, k0⟩ := hone_of hone 0 f0 rfl
    obtain ⟨o1, k1⟩ := hone_of hone 1 f1 rfl
    obtain ⟨o2, k2⟩ := hone_of hone 2 f2 rfl
    obtain ⟨o3, k3⟩ := hone_of hone 3 f3 rfl
    obtain ⟨o4, k4⟩ := hone_of hone 4 f4 rfl
    obtain ⟨o5, k5⟩ := hone_of hone 5 f5 rfl
    obtain ⟨o6, k6⟩ := hone_of hone 6 f6 rfl
    obtain ⟨o7, k7⟩ := hone_of hone 7 f7 rfl
    obtain ⟨o8, k8⟩ := hone_of hone 8 f8 rfl
    match xs, hlen with
    | [y0, y1, y2, y3, y4, y5, y6, y7, y8], _ =>
      exact ⟨c0, c1, c2, c3, c4, c5, c6, c7, c8, y0, y1, y2, y3, y4, y5, y6, y7, y8, n, rfl, by simpa [Value.cells, o0, k0] using hg 0 f0 rfl, by simpa [Value.cells, o1, k1] using hg 1 f1 rfl, by simpa [Value.cells, o2, k2] using hg 2 f2 rfl, by simpa [Value.cells, o3, k3] using hg 3 f3 rfl, by simpa [Value.cells, o4, k4] using hg 4 f4 rfl, by simpa [Value.cells, o5, k5] using hg 5 f5 rfl, by simpa [Value.cells, o6, k6] using hg 6 f6 rfl, by simpa [Value.cells, o7, k7] using hg 7 f7 rfl, by simpa [Value.cells, o8, k8] using hg 8 f8 rfl⟩
end
/-- The numbers of a set are integers of 64 bits. -/
def SetIn (s : TSet) : Prop := (∀ z ∈ s.su, (Lit.int .i64 z).wf = true) ∧ (∀ z ∈ s.re, (Lit.int .i64 z).wf = true)
section
variable {H : Type} {enc : TypeId × Value → H} {W : World} {spare : Nat → Bool} {held : Bool}
set_option maxRecDepth 100000 in
theorem isSet_of_trod {r : Reach} {b0 : Nat} {v : Value} {d : DataW H} {p : List MemPlace} (hv : Value.okWide Try.prog W r b0 24 v) (h : DataW.Trod enc Try.prog W 0 spare held 24 v d p) (hs : spare = fun _ => true) :
    ∃ s : TSet, IsSet W v s ∧ SetIn s := by
  obtain ⟨v0, v1, v2, v3, v4, v5, v6, v7, v8, y0, y1, y2, y3, y4, y5, y6, y7, y8, n, rfl, h0, h1, h2, h3, h4, h5, h6, h7, h8⟩ := open_agg9 Try.underlying24 (by kernel_rfl) (by kernel_rfl) hv h
  obtain ⟨zs, i1, w1⟩ := isInts_of_trod Try.underlying22 h1 hs
  obtain ⟨ks, i8, w8⟩ := isInts_of_trod Try.underlying22 h8 hs
  obtain ⟨z0, e0, _, _⟩ := DataW.trod_int Try.underlying3 h0
  obtain rfl : v0 = .int .i64 z0 := by simpa using e0
  obtain ⟨z2, e2, _, _⟩ := DataW.trod_int Try.underlying3 h2
  obtain rfl : v2 = .int .i64 z2 := by simpa using e2
  obtain ⟨z3, e3, _, _⟩ := DataW.trod_int Try.underlying3 h3
  obtain rfl : v3 = .int .i64 z3 := by simpa using e3
  obtain ⟨z4, e4, _, _⟩ := DataW.trod_int Try.underlying3 h4
  obtain rfl : v4 = .int .i64 z4 := by simpa using e4
  obtain ⟨z5, e5, _, _⟩ := DataW.trod_int Try.underlying3 h5
  obtain rfl : v5 = .int .i64 z5 := by simpa using e5
  obtain ⟨z6, e6, _, _⟩ := DataW.trod_int Try.underlying3 h6
  obtain rfl : v6 = .int .i64 z6 := by simpa using e6
  obtain ⟨z7, e7, _, _⟩ := DataW.trod_int Try.underlying3 h7
  obtain rfl : v7 = .int .i64 z7 := by simpa using e7
  exact ⟨⟨z0, zs, z2, z3, z4, z5, z6, z7, ks⟩, ⟨v1, v8, rfl, i1, i8⟩, w1, w8⟩
end
end Go.Proofs.Ytjiahcfegfimmaa

/-
  The walk of long; contracts of the programs's and the reference's functions, for one set that lies in a block.
-/
namespace Go.Proofs.Ytjiahcfegfimmaa
open Go.RowKit

def longB (s : TSet) : Bool := decide (20 < s.su.length) || decide (60 < s.re.length)
theorem long_any (v : Value) (s : TSet) (w : World) (h : IsSet w v s) : Calls Try.prog 18 #[v] w (Gives w (.bool (longB s))) := by
  have hfin : ∀ b wf, longB s = b → Grow w wf → Gives w (.bool (longB s)) (.returned (.bool b)) wf := fun r wf h hg => ⟨by rw [h], hg⟩
  have HF := hid hfin
  clear hfin
  have HI := hid h
  obtain ⟨A, c, B, d, rfl, h1, h2⟩ := h.open_
  obtain ⟨_, _, e1, c1, m1, r1⟩ := h1
  obtain ⟨_, _, e2, d1, m2, r2⟩ := h2
  injection e1 with e1 _ e1'
  injection e2 with e2 _ e2'
  subst e1 e1' e2 e2'
  unfold maxLen at m1 m2
  have HG0 := hid (show Grow w (w.alloc (.cells #[.int .i64 s.pl, .slice A s.su.length c, .int .i64 s.wi, .int .i64 s.dr, .int .i64 s.fl, .int .i64 s.co, .int .i64 s.me, .int .i64 s.de, .slice B s.re.length d] 24)) from (Grow.refl w).alloc _)
  have HB0 := hid (show Blk (w.alloc (.cells #[.int .i64 s.pl, .slice A s.su.length c, .int .i64 s.wi, .int .i64 s.dr, .int .i64 s.fl, .int .i64 s.co, .int .i64 s.me, .int .i64 s.de, .slice B s.re.length d] 24)) w.heap.size 24 (setVals s (.slice A s.su.length c) (.slice B s.re.length d)) from heap_alloc_new w _)
  clear h
  by_cases hs : 20 < s.su.length
  · have HE := hid (show longB s = true by unfold longB; simp [hs])
    have q0 : (20 : Int) < (s.su.length : Int) := by omega
    clear hs
    go_enter Try.func18, Try.ntmps18
    go_wp2
    go_ret
    exact HF.out _ _ HE.out HG0.out
  · have q0 : ¬ (20 : Int) < (s.su.length : Int) := by omega
    by_cases hr : 60 < s.re.length
    · have HE := hid (show longB s = true by unfold longB; simp [hr])
      have q1 : (60 : Int) < (s.re.length : Int) := by omega
      clear hs hr
      go_enter Try.func18, Try.ntmps18
      go_wp2
      go_ret
      exact HF.out _ _ HE.out HG0.out
    · have HE := hid (show longB s = false by unfold longB; simp [hs, hr])
      have q1 : ¬ (60 : Int) < (s.re.length : Int) := by omega
      clear hs hr
      go_enter Try.func18, Try.ntmps18
      go_wp2
      go_ret
      exact HF.out _ _ HE.out HG0.out
theorem long_false {s : TSet} (h : longB s = false) : s.su.length ≤ 20 ∧ s.re.length ≤ 60 := by
  unfold longB at h
  simp at h
  exact h
theorem Awk (w0 : World) : ∀ W, Grow w0 W → Calls Try.prog 21 #[] W (Gives w0 (.bool true)) := fun W hg => (awake_any W).mono (fun _ _ h => ⟨h.1, hg.trans h.2⟩)
end Go.Proofs.Ytjiahcfegfimmaa
